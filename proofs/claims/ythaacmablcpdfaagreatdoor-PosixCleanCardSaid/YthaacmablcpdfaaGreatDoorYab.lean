/- Bytes and names. The program's Name. What is quoted. Grammars. Lists and grammars as they lie. -/
import Derived.Test.YthaacmablcpdfaaGreatDoorRows
import Derived.Test.YthaacmablcpdfaaGreatDoorYaa
import Derived.WalkSpells
import Derived.WalkLawsBesides
import Derived.BigQuiet
import Derived.Deep.QuietTactic
import Derived.Laws.RangeString
import Derived.Laws.RangeAny
import Derived.Test.YthaacmablcpdfaaGreatDoorYn
set_option linter.unusedVariables false
set_option maxRecDepth 100000
set_option maxHeartbeats 16000000
namespace Go.Proofs.YthaacmablcpdfaaGreatDoor
open Go.RowKit
theorem BB{a b:Bool}(h:a=b):Ending.returned (.bool a)=.returned (.bool b):=by rw[h]
def BD(c:UInt8):Nat:=
 if c=0 then 0 else if c=32\/c=9 then 1 else if c=10 then 2
 else if c=38\/c=124\/c=59\/c=60\/c=62\/c=40\/c=41 then 5
 else if c=39\/c=34\/c=92\/c=96 then 6
 else if c=36 then 7
 else if 48<=c/\c<=57 then 3
 else if c=95\/(97<=c|||32/\c|||32<=122) then 4
 else 8
def M9(n o:Int):Nat:=if 48<=n/\n<=57 then 3 else if n=95\/(97<=o/\o<=122) then 4 else 8
def Ot(n o:Int):Nat:=
 if n=0 then 0 else if n=32\/n=9 then 1 else if n=10 then 2
 else if n=38\/n=124\/n=59\/n=60\/n=62\/n=40\/n=41 then 5
 else if n=39\/n=34\/n=92\/n=96 then 6
 else if n=36 then 7 else M9 n o
def J4:List UInt8:=(List.range 256).map UInt8.ofNat
theorem KP(c:UInt8):c∈J4:=List.mem_map.2 ⟨c.toNat,List.mem_range.2 c.toNat_lt,by simp⟩
theorem Wp:J4.all (fun c=>Ot c.toNat (bits .or .u8 c.toNat 32)==BD c)=true:=by kernel_rfl
theorem VO(c:UInt8):Ot c.toNat (bits .or .u8 c.toNat 32)=BD c:=by have:=List.all_eq_true.1 Wp c (KP c);exact beq_iff_eq.1 this
theorem bO(c:UInt8)(w:World):Calls Tryz.prog 205 #[.int .u8 c.toNat] w fun e w'=>e=.returned (.int .i64 (M9 c.toNat (bits .or .u8 c.toNat 32)))/\w'=w:=by
 go_enter Tryz.func205,Tryz.ntmps205
 generalize (c.toNat:Int)=n;go_wp2;all_goals go_ret
 all_goals refine⟨?_,rfl⟩
 all_goals refine congrArg (fun k:Int=>Ending.returned (Value.int .i64 k)) ?_
 all_goals (
  unfold M9;try simp only[beq_iff_eq,bN]at *
  repeat' split
  all_goals first|rfl|(exfalso;omega))
theorem NQ(c:UInt8)(w:World):Calls Tryz.prog 164 #[.int .u8 c.toNat] w fun e w'=>e=.returned (.int .i64 (BD c))/\w'=w:=by
 rw[<-VO];have i:=Hd (bO c);go_enter Tryz.func164,Tryz.ntmps164
 go_wp2_with (go_at_call 205;refine(i.out _).mono ?_;rintro e w' ⟨rfl,rfl⟩)
 all_goals go_ret
 all_goals refine⟨?_,rfl⟩
 all_goals refine congrArg (fun k:Int=>Ending.returned (Value.int .i64 k)) ?_
 all_goals clear i
 all_goals generalize (c.toNat:Int)=n at *
 all_goals (
  unfold Ot;try simp only[beq_iff_eq,bN]at *
  repeat' split
  all_goals first|rfl|(exfalso;omega))
def Il(n:Int):Nat:=
 if n=0 then 0 else if n=32\/n=9 then 1 else if n=10 then 2
 else if 48<=n/\n<=57 then 3
 else if (97<=n/\n<=122)\/(65<=n/\n<=90)\/n=95 then 4
 else if n=38\/n=124\/n=59\/n=60\/n=62\/n=40\/n=41 then 5
 else if n=39\/n=34\/n=92\/n=96 then 6
 else if n=36 then 7 else 8
theorem XF:J4.all (fun c=>Il c.toNat==BD c)=true:=by kernel_rfl
theorem dL(c:UInt8):Il c.toNat=BD c:=by have:=List.all_eq_true.1 XF c (KP c);exact beq_iff_eq.1 this
theorem FC{a b:Nat}(h:a=b):Ending.returned (.int .i64 (a:Int))=.returned (.int .i64 (b:Int)):=by rw[h]
theorem fW(c:UInt8)(w:World):Calls Tryz.prog 210 #[.int .u8 c.toNat] w fun e w'=>e=.returned (.int .i64 (BD c))/\w=w':=by
 rw[<-dL];generalize (c.toNat:Int)=n;have a9:(n<48)\/(48<=n/\n<=57)\/(57<n/\n<65)\/(65<=n/\n<=90)\/(90<n/\n<97)\/(97<=n/\n<=122)\/(122<n):=by omega
 rcases a9 with h|h|h|h|h|h|h
 ·have i:n<48:=by omega
  have j:n<65:=by omega
  have l:n<97:=by omega
  have a7:(n==95)=false:=bN.2 (by omega);have P:(n==124)=false:=bN.2 (by omega);have a3:(n==59)=false:=bN.2 (by omega);have a4:(n==60)=false:=bN.2 (by omega);have a5:(n==62)=false:=bN.2 (by omega);have a6:(n==92)=false:=bN.2 (by omega);have a8:(n==96)=false:=bN.2 (by omega);clear h;go_enter Tryz.func210,Tryz.ntmps210
  go_wp2;all_goals go_ret
  all_goals refine⟨FC ?_,rfl⟩
  all_goals first
   | rfl
   | decide
   | (
    unfold Il;try simp only[beq_iff_eq,bN]at *
    repeat' split
    all_goals first|rfl|(exfalso;omega))
 ·have i:48<=n:=by omega
  have j:n<=57:=by omega
  have o:(n==0)=false:=bN.2 (by omega);have t:(n==32)=false:=bN.2 (by omega);have C:(n==9)=false:=bN.2 (by omega);have p:(n==10)=false:=bN.2 (by omega);clear h;go_enter Tryz.func210,Tryz.ntmps210
  go_wp2;all_goals go_ret
  all_goals refine⟨FC ?_,rfl⟩
  all_goals first
   | rfl
   | decide
   | (
    unfold Il;try simp only[bN]at *
    repeat' split
    all_goals first|rfl|(exfalso;omega))
 ·have i:48<=n:=by omega
  have j:57<n:=by omega
  have l:n<65:=by omega
  have I:n<97:=by omega
  have o:(n==0)=false:=bN.2 (by omega);have t:(n==32)=false:=bN.2 (by omega);have C:(n==9)=false:=bN.2 (by omega);have p:(n==10)=false:=bN.2 (by omega);have a7:(n==95)=false:=bN.2 (by omega);have U:(n==38)=false:=bN.2 (by omega);have P:(n==124)=false:=bN.2 (by omega);have a1:(n==40)=false:=bN.2 (by omega);have a2:(n==41)=false:=bN.2 (by omega);have a0:(n==39)=false:=bN.2 (by omega);have R:(n==34)=false:=bN.2 (by omega)
  have a6:(n==92)=false:=bN.2 (by omega);have a8:(n==96)=false:=bN.2 (by omega);have T:(n==36)=false:=bN.2 (by omega);clear h;go_enter Tryz.func210,Tryz.ntmps210
  go_wp2;all_goals go_ret
  all_goals refine⟨FC ?_,rfl⟩
  all_goals first
   | rfl
   | decide
   | (
    unfold Il;try simp only[beq_iff_eq,bN]at *
    repeat' split
    all_goals first|rfl|(exfalso;omega))
 ·have i:48<=n:=by omega
  have j:57<n:=by omega
  have l:65<=n:=by omega
  have I:n<=90:=by omega
  have J:n<97:=by omega
  have o:(n==0)=false:=bN.2 (by omega);have t:(n==32)=false:=bN.2 (by omega);have C:(n==9)=false:=bN.2 (by omega);have p:(n==10)=false:=bN.2 (by omega);clear h;go_enter Tryz.func210,Tryz.ntmps210
  go_wp2;all_goals go_ret
  all_goals refine⟨FC ?_,rfl⟩
  all_goals first
   | rfl
   | decide
   | (
    unfold Il;try simp only[bN]at *
    repeat' split
    all_goals first|rfl|(exfalso;omega))
 ·have i:48<=n:=by omega
  have j:57<n:=by omega
  have l:65<=n:=by omega
  have I:90<n:=by omega
  have J:n<97:=by omega
  have o:(n==0)=false:=bN.2 (by omega);have t:(n==32)=false:=bN.2 (by omega);have C:(n==9)=false:=bN.2 (by omega);have p:(n==10)=false:=bN.2 (by omega);have U:(n==38)=false:=bN.2 (by omega);have P:(n==124)=false:=bN.2 (by omega);have a3:(n==59)=false:=bN.2 (by omega);have a4:(n==60)=false:=bN.2 (by omega);have a5:(n==62)=false:=bN.2 (by omega);have a1:(n==40)=false:=bN.2 (by omega);have a2:(n==41)=false:=bN.2 (by omega)
  have a0:(n==39)=false:=bN.2 (by omega);have R:(n==34)=false:=bN.2 (by omega);have T:(n==36)=false:=bN.2 (by omega);clear h;go_enter Tryz.func210,Tryz.ntmps210
  go_wp2;all_goals go_ret
  all_goals refine⟨FC ?_,rfl⟩
  all_goals first
   | rfl
   | decide
   | (
    unfold Il;try simp only[beq_iff_eq,bN]at *
    repeat' split
    all_goals first|rfl|(exfalso;omega))
 ·have i:48<=n:=by omega
  have j:57<n:=by omega
  have l:97<=n:=by omega
  have I:n<=122:=by omega
  have o:(n==0)=false:=bN.2 (by omega);have t:(n==32)=false:=bN.2 (by omega);have C:(n==9)=false:=bN.2 (by omega);have p:(n==10)=false:=bN.2 (by omega);clear h;go_enter Tryz.func210,Tryz.ntmps210
  go_wp2;all_goals go_ret
  all_goals refine⟨FC ?_,rfl⟩
  all_goals first
   | rfl
   | decide
   | (
    unfold Il;try simp only[bN]at *
    repeat' split
    all_goals first|rfl|(exfalso;omega))
 ·have i:48<=n:=by omega
  have j:57<n:=by omega
  have l:65<=n:=by omega
  have I:90<n:=by omega
  have J:97<=n:=by omega
  have q5:122<n:=by omega
  have o:(n==0)=false:=bN.2 (by omega);have t:(n==32)=false:=bN.2 (by omega);have C:(n==9)=false:=bN.2 (by omega);have p:(n==10)=false:=bN.2 (by omega);have a7:(n==95)=false:=bN.2 (by omega);have U:(n==38)=false:=bN.2 (by omega);have a3:(n==59)=false:=bN.2 (by omega);have a4:(n==60)=false:=bN.2 (by omega);have a5:(n==62)=false:=bN.2 (by omega);have a1:(n==40)=false:=bN.2 (by omega);have a2:(n==41)=false:=bN.2 (by omega)
  have a0:(n==39)=false:=bN.2 (by omega);have R:(n==34)=false:=bN.2 (by omega);have a6:(n==92)=false:=bN.2 (by omega);have a8:(n==96)=false:=bN.2 (by omega);have T:(n==36)=false:=bN.2 (by omega);clear h;go_enter Tryz.func210,Tryz.ntmps210
  go_wp2;all_goals go_ret
  all_goals refine⟨FC ?_,rfl⟩
  all_goals first
   | rfl
   | decide
   | (
    unfold Il;try simp only[bN]at *
    repeat' split
    all_goals first|rfl|(exfalso;omega))
def FA:List UInt8->Bool
 | []=>false
 | c::r=>BD c==4&&r.all fun d=>BD d==4||BD d==3
theorem Hk(s:ByteArray)(k:Nat)(h:k<s.size):s.data.toList.drop k=s[k]::s.data.toList.drop (k+1):=by rw[List.drop_eq_getElem_cons (by simpa using h)];rfl
theorem MA(s:ByteArray):s.data.toList.drop s.size=[]:=List.drop_of_length_le (by simp)
theorem LH(s:ByteArray):s.data.toList.isEmpty=decide (s.size=0):=by
 have h:s.data.toList.length=s.size:=by simp
 cases i:s.data.toList with
 | nil=>rw[i]at h;simp at h;simp[<-h]
 | cons a l=>rw[i]at h;simp at h;simp[<-h]
theorem size_pos(s:ByteArray):decide (0<s.size)=(!decide (s.size=0)&&true):=by rw[Bool.eq_iff_iff,Bool.and_true,Bool.not_eq_true',decide_eq_true_eq,decide_eq_false_iff_not];omega
def Kn(l:List UInt8):Bool:=l.all fun d=>BD d==4||BD d==3
def Du(k:Nat)(l:List UInt8):Bool:=if k=0 then(match l with|[]=>true|c::r=>BD c==4&&Kn r) else Kn l
theorem SV(s:ByteArray):FA s.data.toList=(!decide (s.size=0)&&Du 0 s.data.toList):=by
 rw[<-LH];cases s.data.toList with
 | nil=>rfl
 | cons c r=>simp[FA,Du,Kn]
theorem VY(s:ByteArray)(hs:s.size<=9223372036854775807)(w:World):Calls Tryz.prog 189 #[.string s] w fun e w'=>e=.returned (.bool (FA s.data.toList))/\w=w':=by
 have J:=Hd (SV s);go_enter Tryz.func189,Tryz.ntmps189
 go_wp2
 go_loop [3,4] (fun i _=>∃k:Nat,k<=s.size/\i=.int .i64 k/\Hid (Du 0 s.data.toList=Du k (s.data.toList.drop k))) (fun i _=>s.size-(intOf i).toNat)
 case atStart=>exact⟨0,AP _,rfl,Hd rfl⟩
 case round=>
  obtain⟨k,hk,rfl,I⟩:=hrel;by_cases U:k<s.size
  ·have P:=Hd (Hk s k U)
   have o:=Hd (fW s[k] w);have hz:s.size≠0:=by omega
   by_cases t:BD s[k]=4\/(BD s[k]=3/\k≠0)
   ·have C:Hid (Du 0 s.data.toList=Du (k+1) (s.data.toList.drop (k+1))):=Hd (by
     rw[I.out,P.out];unfold Du;rw[if_neg (Nat.succ_ne_zero k)];by_cases j:k=0
     ·rw[if_pos j]
      have p:BD s[k]=4:=by omega
      simp[p]
     ·rw[if_neg j]
      rcases t with h|h
      ·simp[Kn,h]
      ·simp[Kn,h.1])
    rcases t with p|⟨l,j⟩
    ·rw[p]at o
     clear p;go_wp2_with (go_at_call 210;refine o.out.mono ?_;rintro e w' ⟨rfl,rfl⟩)
     go_round
     case rel=>exact⟨k+1,by omega,by go_num,C⟩
     case measure=>simp[intOf];omega
    ·rw[l]at o
     have a1:((k:Int)==0)=false:=by simp;omega
     clear l;go_wp2_with (go_at_call 210;refine o.out.mono ?_;rintro e w' ⟨rfl,rfl⟩)
     go_round
     case rel=>exact⟨k+1,by omega,by go_num,C⟩
     case measure=>simp[intOf];omega
   ·have C:Hid (Du 0 s.data.toList=false):=Hd (by
     rw[I.out,P.out];unfold Du;have p:BD s[k]≠4:=fun h=>t (.inl h)
     by_cases j:k=0
     ·rw[if_pos j]
      simp[p]
     ·rw[if_neg j]
      have l:BD s[k]≠3:=fun h=>t (.inr ⟨h,j⟩)
      simp[Kn,p,l])
    have a0:((BD s[k]:Int) != 4)=true:=by
     have:BD s[k]≠4:=fun h=>t (.inl h)
     simp;omega
    by_cases l:BD s[k]=3
    ·have j:k=0:=by omega
     subst j;rw[l]at o;clear l t a0;go_wp2_with (go_at_call 210;refine o.out.mono ?_;rintro e w' ⟨rfl,rfl⟩)
     go_ret;exact⟨BB (by rw[J.out,C.out,Bool.and_false]),rfl⟩
    ·have a2:((BD s[k]:Int) != 3)=true:=by simp;omega
     clear t;generalize BD s[k]=q at *;clear l;go_wp2_with (go_at_call 210;refine o.out.mono ?_;rintro e w' ⟨rfl,rfl⟩)
     go_ret;exact⟨BB (by rw[J.out,C.out,Bool.and_false]),rfl⟩
  ·obtain rfl:k=s.size:=by omega
   have R:Du 0 s.data.toList=true:=by rw[I.out,MA];unfold Du;split<;>rfl
   have T:=Hd R;clear R I;go_wp2;go_ret;refine⟨BB ?_,rfl⟩;rw[J.out,T.out];exact size_pos s
def EC(c:UInt8):Bool:=33<=c.toNat&&c.toNat<=126&&c.toNat != 39
def LD(n:Int):Bool:=decide (33<=n)&&decide (n<=126)&&!(n==39)
theorem Zr:J4.all (fun c=>LD c.toNat==EC c)=true:=by kernel_rfl
theorem Rl(c:UInt8):LD c.toNat=EC c:=beq_iff_eq.1 (List.all_eq_true.1 Zr c (KP c))
theorem WU(c:UInt8)(w:World):Calls Tryz.prog 185 #[.int .u8 c.toNat] w fun e w'=>e=.returned (.bool (EC c))/\w=w':=by
 rw[<-Rl];go_enter Tryz.func185,Tryz.ntmps185
 generalize (c.toNat:Int)=n;unfold LD;go_wp2;all_goals go_ret
 all_goals refine⟨BB ?_,rfl⟩
 all_goals (rw[Bool.eq_iff_iff];simp[*]<;>omega)
theorem bZ(c:UInt8)(w:World):Calls Tryz.prog 211 #[.int .u8 c.toNat] w fun e w'=>e=.returned (.bool (EC c))/\w=w':=by
 rw[<-Rl];go_enter Tryz.func211,Tryz.ntmps211
 generalize (c.toNat:Int)=n;unfold LD;go_wp2;all_goals go_ret
 all_goals refine⟨BB ?_,rfl⟩
 all_goals (rw[Bool.eq_iff_iff];simp[*]<;>omega)
def Gn(l:List UInt8):Bool:=l.all fun c=>decide (c.toNat<128)
theorem fI(s:ByteArray)(J:s.size<=9223372036854775807)(w:World):Calls Tryz.prog 182 #[.string s] w fun e w'=>e=.returned (.bool (Gn s.data.toList))/\w=w':=by
 go_enter Tryz.func182,Tryz.ntmps182
 go_wp2
 go_loop [6] (fun i=>∃k:Nat,k<=s.size/\i=.int .i64 k/\Hid (Gn s.data.toList=Gn (s.data.toList.drop k))) (fun i=>s.size-(intOf i).toNat)
 case atStart=>exact⟨0,AP _,rfl,Hd rfl⟩
 case round=>
  obtain⟨k,I,rfl,o⟩:=hrel;by_cases C:k<s.size
  ·have p:=Hd (Hk s k C)
   have l:Hid (Gn s.data.toList=(decide (s[k].toNat<128)&&Gn (s.data.toList.drop (k+1)))):=Hd (by rw[o.out,p.out];rfl);by_cases h:s[k].toNat<128
   ·have j:Hid (Gn s.data.toList=Gn (s.data.toList.drop (k+1))):=Hd (by rw[l.out,decide_eq_true h,Bool.true_and])
    have t:(s[k].toNat:Int)<128:=by omega
    clear h;go_wp2
    go_round
    case rel=>exact⟨k+1,by omega,by go_num,j⟩
    case measure=>simp[intOf];omega
   ·have j:Hid (Gn s.data.toList=false):=Hd (by rw[l.out,decide_eq_false h,Bool.false_and])
    have t:128<=(s[k].toNat:Int):=by omega
    clear h;go_wp2;go_ret;exact⟨BB j.out.symm,rfl⟩
  ·obtain rfl:k=s.size:=by omega
   have j:Hid (Gn s.data.toList=true):=Hd (by rw[o.out,MA];rfl);go_wp2;go_ret;exact⟨BB j.out.symm,rfl⟩
def nameAt(i:Int)(q:Int):Bool:=(q==4)||((q==3)&&decide (0<i))
theorem UH(i:Int)(c:UInt8)(w:World):Calls Tryz.prog 184 #[.int .i64 i,.int .u8 c.toNat] w fun e w'=>e=.returned (.bool (nameAt i (BD c)))/\w=w':=by
 have j:=Hd (NQ c w);generalize (BD c:Int)=q at *;unfold nameAt;go_enter Tryz.func184,Tryz.ntmps184
 go_wp2_with (go_at_call 164;refine j.out.mono ?_;rintro e w' ⟨rfl,rfl⟩)
 all_goals go_ret
 all_goals exact⟨BB (by simp[*]),rfl⟩
theorem eJ(k:Nat)(c:UInt8):nameAt k (BD c)=(BD c==4||(BD c==3&&k != 0)):=by
 have i:((BD c:Int)==4)=(BD c==4):=by rw[Bool.eq_iff_iff,beq_iff_eq,beq_iff_eq];omega
 have j:((BD c:Int)==3)=(BD c==3):=by rw[Bool.eq_iff_iff,beq_iff_eq,beq_iff_eq];omega
 have l:decide ((0:Int)<(k:Int))=(k != 0):=by rw[Bool.eq_iff_iff,decide_eq_true_eq,bne_iff_ne];omega
 unfold nameAt;rw[i,j,l]
theorem Ve(s:ByteArray)(k:Nat)(h:k<s.size)(l:Du 0 s.data.toList=Du k (s.data.toList.drop k)):Du 0 s.data.toList=(nameAt k (BD s[k])&&Du (k+1) (s.data.toList.drop (k+1))):=by
 rw[l,Hk s k h,eJ];unfold Du;rw[if_neg (Nat.succ_ne_zero k)];by_cases i:k=0
 ·rw[if_pos i];simp[i]
 ·have j:(k != 0)=true:=by simpa using i
  rw[if_neg i,j,Bool.and_true];rfl
theorem QJ(w:World)(s:ByteArray)(k:Nat):Below w.heap.size w (w.iter s k):=(Below.refl _ _).alloc (AG _) _
theorem WA(s:ByteArray)(U:s.size<=9223372036854775807)(ha:Gn s.data.toList=true)(w:World):Calls Tryz.prog 183 #[.string s,.func (.func 184) #[] #[]] w fun e w'=>e=.returned (.bool (FA s.data.toList))/\Below w.heap.size w w':=by
 have J:Hid (∀k,∀h:k<s.size,s[k].toNat<128):=Hd (fun k h=>by
  have P:=List.all_eq_true.1 ha s[k] (by
   have:s.data.toList[k]?=some s[k]:=by rw[Array.getElem?_toList];exact Array.getElem?_eq_getElem h
   exact mG this)
  exact of_decide_eq_true P)
 have I:=Hd (SV s);clear ha;go_enter Tryz.func183,Tryz.ntmps183
 go_wp2;go_loopw [] (fun wr=>∃k:Nat,k<=s.size/\wr=w.iter s k/\Hid (Du 0 s.data.toList=Du k (s.data.toList.drop k))) (fun wr=>s.size-wr.iterPos w.heap.size)
 case atStart=>exact⟨0,AP _,rfl,Hd rfl⟩
 case round=>
  obtain⟨k,T,rfl,j⟩:=hrel;by_cases C:k<s.size
  ·have R:∀i,(Instr.next (.pointer (some ⟨w.heap.size,0,none⟩)) true i).run Tryz.prog (w.iter s k)=_:=fun i=>run_next_ascii w s k i C (J.out k C)
   have p:=Hd (Ve s k C j.out);have o:=Hd (UH k s[k] (w.iter s (k+1)));cases t:nameAt k (BD s[k]) with
   | true=>
    rw[t]at o p;have l:Hid (Du 0 s.data.toList=Du (k+1) (s.data.toList.drop (k+1))):=Hd (by rw[p.out,Bool.true_and]);clear t j;go_wp2_with (go_at_call 184;refine o.out.mono ?_;rintro e w' ⟨rfl,rfl⟩)
    go_roundw
    case rel=>exact⟨k+1,by omega,rfl,l⟩
    case measure=>simp;omega
   | false=>
    rw[t]at o p;have l:Hid (Du 0 s.data.toList=false):=Hd (by rw[p.out,Bool.false_and]);clear t j;go_wp2_with (go_at_call 184;refine o.out.mono ?_;rintro e w' ⟨rfl,rfl⟩)
    go_ret;exact⟨BB (by rw[I.out,l.out,Bool.and_false]),QJ w s _⟩
  ·have R:∀i,(Instr.next (.pointer (some ⟨w.heap.size,0,none⟩)) true i).run Tryz.prog (w.iter s k)=_:=fun i=>run_next_end w s k i C
   obtain rfl:k=s.size:=by omega
   have l:Hid (Du 0 s.data.toList=true):=Hd (by rw[j.out,MA];unfold Du;split<;>rfl)
   clear j;go_wp2;go_ret;refine⟨BB ?_,QJ w s _⟩;rw[I.out,l.out,Bool.and_true];rw[show s.toList=s.data.toList from ByteArray.toList_eq s,LH]
theorem bD{c:UInt8}(h:¬c.toNat<128):BD c=8:=by have h0:=List.all_eq_true.1 (show J4.all (fun c=>decide (c.toNat<128)||(BD c==8))=true by kernel_rfl) c (KP c);rw[decide_eq_false h,Bool.false_or]at h0;exact beq_iff_eq.1 h0
theorem bP{l:List UInt8}(h:FA l=true):Gn l=true:=by
 cases l with
 | nil=>cases h
 | cons c r=>
  simp only[FA,Bool.and_eq_true,beq_iff_eq,List.all_eq_true,Bool.or_eq_true]at h;unfold Gn;rw[List.all_eq_true];intro d i;rw[decide_eq_true_eq];by_cases j:d.toNat<128
  ·exact j
  ·have o:=bD j
   rcases List.mem_cons.1 i with rfl|i
   ·omega
   ·rcases h.2 d i with e|e<;>omega
theorem iB(s:ByteArray)(o:s.size<=9223372036854775807)(w:World):Calls Tryz.prog 130 #[.string s] w fun e w'=>e=.returned (.bool (FA s.data.toList))/\Below w.heap.size w w':=by
 have i:=Hd (fI s o w);cases ha:Gn s.data.toList with
 | true=>
  rw[ha]at i;have t:=Hd (WA s o ha w);clear ha;go_enter Tryz.func130,Tryz.ntmps130
  go_wp2_with (go_at_call 182;refine i.out.mono ?_;rintro e w' ⟨rfl,rfl⟩)
  refine t.out.mono ?_;rintro e w' ⟨rfl,j⟩;have p:=Hd j;clear j;go_wp2;go_ret;exact⟨rfl,p.out⟩
 | false=>
  rw[ha]at i;have l:FA s.data.toList=false:=by
   cases h:FA s.data.toList with
   | false=>rfl
   | true=>rw[bP h]at ha;cases ha
  rw[l];clear ha l;go_enter Tryz.func130,Tryz.ntmps130
  go_wp2_with (go_at_call 182;refine i.out.mono ?_;rintro e w' ⟨rfl,rfl⟩)
  go_ret;exact⟨rfl,Below.refl _ _⟩
def Cg(l:List UInt8):Bool:=FA l&&decide (l.length<=24)
theorem G8(t:ByteArray):t.data.toList.length=t.size:=by simp
theorem Sq(s:ByteArray)(p:s.size<=9223372036854775807)(w:World):Calls Tryz.prog 76 #[.string s] w fun e w'=>e=.returned (.bool (Cg s.data.toList))/\Below w.heap.size w w':=by
 have l:=Hd (iB s p w);unfold Cg;rw[G8];generalize FA s.data.toList=b at *;by_cases h:s.size<=24
 ·rw[decide_eq_true h,Bool.and_true]
  have o:(s.size:Int)<=24:=by omega
  clear h;go_enter Tryz.func76,Tryz.ntmps76
  go_wp2_with fail
  refine l.out.mono ?_;rintro e w' ⟨rfl,i⟩;have j:=Hd i;clear i;go_wp2;go_ret;exact⟨rfl,j.out⟩
 ·rw[decide_eq_false h,Bool.and_false]
  have o:¬(s.size:Int)<=24:=by omega
  clear h;go_enter Tryz.func76,Tryz.ntmps76
  go_wp2;go_ret;exact⟨rfl,Below.refl _ _⟩
theorem Ue(s:ByteArray)(j:s.size<=9223372036854775807)(w:World):Calls Tryz.prog 138 #[.string s] w fun e w'=>e=.returned (.bool (Cg s.data.toList))/\w=w':=by
 have i:=Hd (VY s j w);unfold Cg;rw[G8];generalize FA s.data.toList=b at *;go_enter Tryz.func138,Tryz.ntmps138
 go_wp2_with (go_at_call 189;refine i.out.mono ?_;rintro e w' ⟨rfl,rfl⟩)
 all_goals go_ret
 all_goals refine⟨BB ?_,rfl⟩
 all_goals (rw[Bool.eq_iff_iff];simp[*]<;>omega)
def Bg(l:List UInt8):Nat:=(l.takeWhile EC).length
theorem QZ(l:List UInt8):Bg l<=l.length:=(List.takeWhile_sublist EC).length_le
theorem LU(c:UInt8)(l:List UInt8):Bg (c::l)=if EC c then Bg l+1 else 0:=by unfold Bg;rw[List.takeWhile_cons];split<;>simp
def MB(s:ByteArray)(p k:Nat):Prop:=p+k<=s.size/\Bg (s.data.toList.drop p)=k+Bg (s.data.toList.drop (p+k))
theorem Nj(s:ByteArray)(R:s.size<=4611686018427387904)(p:Nat)(P:p<=s.size)(w:World):Calls Tryz.prog 161 #[.string s,.int .i64 p,.func (.func 185) #[] #[]] w fun e w'=>e=.returned (.int .i64 (Bg (s.data.toList.drop p)))/\w=w':=by
 go_enter Tryz.func161,Tryz.ntmps161
 go_wp2
 go_loop [7] (fun n=>∃k:Nat,p+k<=s.size/\n=.int .i64 k/\Hid (MB s p k)) (fun n=>s.size-(intOf n).toNat)
 case atStart=>exact⟨0,by omega,rfl,Hd ⟨by omega,by simp⟩⟩
 case round=>
  obtain⟨k,J,rfl,t⟩:=hrel;by_cases I:p+k<s.size
  ·have C:=Hd (Hk s (p+k) I)
   have o:=Hd (WU s[p+k] w);cases j:EC s[p+k] with
   | true=>
    rw[j]at o;have l:Hid (MB s p (k+1)):=Hd ⟨by omega,by have i:=t.out.2;rw[C.out,LU,if_pos j]at i;rw[i];show k+(Bg (s.data.toList.drop (p+k+1))+1)=k+1+Bg (s.data.toList.drop (p+(k+1)));rw[Nat.add_assoc p k 1];omega⟩
    clear j;go_wp2_with (go_at_call 185;refine o.out.mono ?_;rintro e w' ⟨rfl,rfl⟩)
    go_round
    case rel=>exact⟨k+1,by omega,by go_num,l⟩
    case measure=>simp[intOf];omega
   | false=>
    rw[j]at o;have l:Hid (Bg (s.data.toList.drop p)=k):=Hd (by have i:=t.out.2;rw[C.out,LU,j]at i;simpa using i)
    clear j;go_wp2_with (go_at_call 185;refine o.out.mono ?_;rintro e w' ⟨rfl,rfl⟩)
    go_ret;exact⟨FC l.out.symm,rfl⟩
  ·have l:Hid (Bg (s.data.toList.drop p)=k):=Hd (by
    have i:=t.out.2;rw[show s.data.toList.drop (p+k)=[] from List.drop_of_length_le (by simp;omega)]at i;simpa [Bg] using i)
   go_wp2;go_ret;exact⟨FC l.out.symm,rfl⟩
theorem LW(k:Int)(i:k≠0)(p:Int)(w:World):Calls Tryz.prog 67 #[.int .i64 k,.int .i64 p] w fun e w'=>e=.returned (.iface 202 (.pointer (some ⟨w.heap.size,0,none⟩)))/\Below w.heap.size w w':=by
 have h0:(k==0)=false:=by simpa using i
 clear i;go_enter Tryz.func67,Tryz.ntmps67
 go_wp2;go_ret;exact⟨rfl,(Below.refl _ _).alloc (AG _) _⟩
def Gl(s:ByteArray):Prop:=1+Bg (s.data.toList.drop 1)<s.size/\s.data.toList[1+Bg (s.data.toList.drop 1)]?=some 39/\Bg (s.data.toList.drop 1)≠0/\1+Bg (s.data.toList.drop 1)<24
theorem get_some(s:ByteArray)(k:Nat)(h:k<s.size):s.data.toList[k]?=some s[k]:=by rw[Array.getElem?_toList];exact Array.getElem?_eq_getElem h
theorem Wh(s:ByteArray)(t:s.size<=4611686018427387904)(h:Gl s)(w:World):Calls Tryz.prog 131 #[.string s,.int .i64 0] w fun e w'=>e=.returned (.tuple #[.int .i64 ((Bg (s.data.toList.drop 1)+2:Nat):Int),.nilIface])/\w=w':=by
 obtain⟨o,i,p,C⟩:=h;have l:=Hd (Nj s t 1 (by omega) w);generalize Bg (s.data.toList.drop 1)=k at *;have j:s[1+k]=39:=by rw[get_some s _ o]at i;exact Option.some.inj i
 have I:((s[1+k].toNat:Int) != 39)=false:=by rw[j];rfl
 have J:((1:Int)+(k:Int)==1)=false:=bN.2 (by omega);clear i j p;go_enter Tryz.func131,Tryz.ntmps131
 go_wp2_with fail
 refine l.out.mono ?_;rintro e w' ⟨rfl,rfl⟩;go_wp2
 go_ret2
 exact⟨by simp;omega,rfl⟩
def Vl(w:World)(e:Ending)(w':World):Prop:=∃A,e=.returned (.tuple #[.int .i64 0,.iface 202 (.pointer (some A))])/\Below w.heap.size w w'
theorem Zh(s:ByteArray)(P:s.size<=4611686018427387904)(h0:0<s.size)(h:¬Gl s)(w:World):Calls Tryz.prog 131 #[.string s,.int .i64 0] w (Vl w):=by
 have p:=Hd (Nj s P 1 (by omega) w);have U:Bg (s.data.toList.drop 1)<s.size:=by have:=QZ (s.data.toList.drop 1);simp only[List.length_drop,G8]at this;omega
 unfold Gl at h;generalize Bg (s.data.toList.drop 1)=k at *;by_cases I:1+k<s.size
 ·by_cases o:s[1+k]=39
  ·have J:((s[1+k].toNat:Int) != 39)=false:=by rw[o];rfl
   by_cases t:k=0
   ·subst t
    clear h o;go_enter Tryz.func131,Tryz.ntmps131
    go_wp2_with fail
    refine p.out.mono ?_;rintro e l ⟨rfl,rfl⟩;go_wp2_with (go_at_call 67;refine(LW _ (by decide) _ _).mono ?_;rintro e l ⟨rfl,i⟩;have j:=Hd i;clear i)
    go_ret2
    exact⟨_,rfl,j.out⟩
   ·have T:((1:Int)+(k:Int)==1)=false:=bN.2 (by omega)
    have C:24<=1+k:=by
     by_cases C:1+k<24
     ·exfalso
      exact h ⟨I,by rw[get_some s _ I,o],t,C⟩
     ·omega
    have R:24<=(1:Int)+(k:Int):=by omega
    clear h o t C;go_enter Tryz.func131,Tryz.ntmps131
    go_wp2_with fail
    refine p.out.mono ?_;rintro e l ⟨rfl,rfl⟩;go_wp2_with (go_at_call 67;refine(LW _ (by decide) _ _).mono ?_;rintro e l ⟨rfl,i⟩;have j:=Hd i;clear i)
    go_ret2
    exact⟨_,rfl,j.out⟩
  ·have J:((s[1+k].toNat:Int) != 39)=true:=by
    rw[bne_iff_ne];intro e;exact o (UInt8.toNat_inj.1 (by show s[1+k].toNat=39;omega))
   clear h o;go_enter Tryz.func131,Tryz.ntmps131
   go_wp2_with fail
   refine p.out.mono ?_;rintro e l ⟨rfl,rfl⟩;go_wp2_with (go_at_call 67;refine(LW _ (by decide) _ _).mono ?_;rintro e l ⟨rfl,i⟩;have j:=Hd i;clear i)
   go_ret2
   exact⟨_,rfl,j.out⟩
 ·clear h
  go_enter Tryz.func131,Tryz.ntmps131
  go_wp2_with fail
  refine p.out.mono ?_;rintro e l ⟨rfl,rfl⟩;go_wp2_with (go_at_call 67;refine(LW _ (by decide) _ _).mono ?_;rintro e l ⟨rfl,i⟩;have j:=Hd i;clear i)
  go_ret2
  exact⟨_,rfl,j.out⟩
theorem LF(s:ByteArray):s.toList=s.data.toList:=ByteArray.toList_eq s
def Cl(l:List UInt8):Bool:=l.head?==some 39&&(decide (1+Bg (l.drop 1)<l.length)&&(l[1+Bg (l.drop 1)]?==some 39)&&(Bg (l.drop 1) != 0)&&decide (1+Bg (l.drop 1)<24))&&(Bg (l.drop 1)+2==l.length)
theorem O3{s:ByteArray}(h:Gl s)(h0:s.data.toList.head?=some 39):Cl s.data.toList=(Bg (s.data.toList.drop 1)+2==s.size):=by obtain⟨i,j,l,o⟩:=h;unfold Cl;rw[h0,j,G8,decide_eq_true i,decide_eq_true o,show (Bg (s.data.toList.drop 1) != 0)=true from bne_iff_ne.2 l];rfl
theorem Sc{s:ByteArray}(h:¬Gl s):Cl s.data.toList=false:=by
 cases i:Cl s.data.toList with
 | false=>rfl
 | true=>exfalso;unfold Cl at i;simp only[Bool.and_eq_true,decide_eq_true_eq,beq_iff_eq,bne_iff_ne,ne_eq,G8]at i;exact h ⟨i.1.2.1.1.1,i.1.2.1.1.2,i.1.2.1.2,i.1.2.2⟩
theorem Pr{l:List UInt8}(h:l.head?≠some 39):Cl l=false:=by unfold Cl;rw[bN.2 h];rfl
theorem MK(s:ByteArray)(h:0<s.size):s.data.toList.head?=some s[0]:=by rw[List.head?_eq_getElem?];exact get_some s 0 h
theorem QP{s:ByteArray}(h:s.size=0):s=⟨#[]⟩:=by have:s.data.toList=[]:=List.eq_nil_of_length_eq_zero (by rw[G8];exact h);exact ByteArray.ext (Array.ext' this)
theorem YK(s:ByteArray)(C:s.size<=4611686018427387904)(w:World):Calls Tryz.prog 77 #[.string s] w fun e w'=>e=.returned (.bool (Cl s.data.toList))/\Below w.heap.size w w':=by
 by_cases h0:s.size=0
 ·obtain rfl:=QP h0
  go_enter Tryz.func77,Tryz.ntmps77
  go_wp2;go_ret;exact⟨rfl,Below.refl _ _⟩
 have p:0<s.size:=by omega
 have P:s.toList.isEmpty=false:=by rw[LF,LH];exact decide_eq_false h0
 by_cases i:s[0]=39
 ·have J:((s[0].toNat:Int) != 39)=false:=by rw[i];rfl
  have o:s.data.toList.head?=some 39:=by rw[MK s p,i]
  by_cases j:Gl s
  ·have l:=Hd (Wh s C j w)
   rw[O3 j o];clear j o i h0;generalize Bg (s.data.toList.drop 1)=k at *;go_enter Tryz.func77,Tryz.ntmps77
   go_wp2_with fail
   refine l.out.mono ?_;rintro e w' ⟨rfl,rfl⟩;go_wp2;go_ret;refine⟨BB ?_,Below.refl _ _⟩;rw[Bool.eq_iff_iff,beq_iff_eq,beq_iff_eq];omega
  ·have l:=Hd (Zh s C p j w)
   rw[Sc j];clear j o i h0;go_enter Tryz.func77,Tryz.ntmps77
   go_wp2_with fail
   refine l.out.mono ?_;rintro e w' ⟨A,rfl,t⟩;have I:=Hd t;clear t;go_wp2;go_ret;exact⟨rfl,I.out⟩
 ·have J:((s[0].toNat:Int) != 39)=true:=by
   rw[bne_iff_ne];intro e;exact i (UInt8.toNat_inj.1 (by show s[0].toNat=39;omega))
  rw[Pr (by rw[MK s p];simpa using i)];clear i h0;go_enter Tryz.func77,Tryz.ntmps77
  go_wp2;go_ret;exact⟨rfl,Below.refl _ _⟩
def FJ(e p:Int):Value:=.agg #[.int .i64 e,.int .i64 p]
def cD(w:World)(s:ByteArray)(e:Ending)(w':World):Prop:=Below w.heap.size w w' /\
 ((Gl s/\e=.returned (.tuple #[.int .i64 ((Bg (s.data.toList.drop 1)+2:Nat):Int),FJ 0 0]))\/(¬Gl s/\∃k p,k≠0/\e=.returned (.tuple #[.int .i64 0,FJ k p])))
theorem VJ(s:ByteArray)(T:s.size<=4611686018427387904)(h0:0<s.size)(w:World):Calls Tryz.prog 190 #[.string s,.int .i64 0] w (cD w s):=by
 go_enter Tryz.func190,Tryz.ntmps190
 go_wp2
 go_loop [6] (fun n=>∃k:Nat,1+k<=s.size/\n=.int .i64 ((k:Int)+1)/\Hid (MB s 1 k)) (fun n=>s.size-(intOf n).toNat)
 case atStart=>exact⟨0,by omega,rfl,Hd ⟨by omega,by simp⟩⟩
 case round=>
  obtain⟨k,R,rfl,t⟩:=hrel;by_cases I:k+1<s.size
  ·have J:Hid (s.data.toList.drop (1+k)=s[k+1]::s.data.toList.drop (1+k+1)):=Hd (by rw[Nat.add_comm 1 k];exact Hk s (k+1) I)
   have o:=Hd (bZ s[k+1]);cases l:EC s[k+1] with
   | true=>
    rw[l]at o;have j:Hid (MB s 1 (k+1)):=Hd ⟨by omega,by have i:=t.out.2;rw[J.out,LU,if_pos l]at i;rw[i];show k+(Bg (s.data.toList.drop (1+k+1))+1)=k+1+Bg (s.data.toList.drop (1+(k+1)));rw[Nat.add_assoc 1 k 1];omega⟩
    clear l;go_wp2_with (go_at_call 211;refine(o.out _).mono ?_;rintro e P ⟨rfl,rfl⟩)
    go_round
    case rel=>exact⟨k+1,by omega,by go_num,j⟩
    case measure=>simp[intOf];omega
   | false=>
    rw[l]at o;have j:Hid (Bg (s.data.toList.drop 1)=k):=Hd (by have i:=t.out.2;rw[J.out,LU,l]at i;simpa using i)
    have p:Hid (Gl s<->(s[k+1].toNat:Int)=39/\¬k=0/\k+1<24):=Hd (by
     unfold Gl;rw[j.out,Nat.add_comm 1 k,get_some s _ I];constructor
     ·rintro⟨_,a,b,c⟩
      have:=Option.some.inj a;exact⟨by rw[this];rfl,b,c⟩
     ·rintro⟨a,b,c⟩
      exact⟨I,by rw[show s[k+1]=39 from UInt8.toNat_inj.1 (by show s[k+1].toNat=39;omega)],b,c⟩)
    clear l;go_wp2_with (go_at_call 211;refine(o.out _).mono ?_;rintro e P ⟨rfl,rfl⟩)
    ·refine bodyPost_ret (v:=.tuple #[.int .i64 0,FJ 2 ((k:Int)+1)]) (by simp[results,Tryz.results190,go_sem,FJ]) rfl ⟨(Below.refl _ _).alloc (AG _) _,.inr ⟨?_,_,_,by decide,rfl⟩⟩
     rw[p.out];have C:((k:Int)+1==1)=true:=by assumption
     rw[beq_iff_eq]at C;omega
    ·refine bodyPost_ret (v:=.tuple #[.int .i64 0,FJ 5 (0)]) (by simp[results,Tryz.results190,go_sem,FJ]) rfl ⟨(Below.refl _ _).alloc (AG _) _,.inr ⟨?_,_,_,by decide,rfl⟩⟩
     rw[p.out];omega
    ·refine bodyPost_ret (v:=.tuple #[.int .i64 ((k:Int)+1+1),FJ 0 0]) (by simp[results,Tryz.results190,go_sem,FJ]) rfl ⟨(Below.refl _ _).alloc (AG _) _,.inl ⟨?_,?_⟩⟩
     ·rw[p.out]
      have C:((k:Int)+1==1)=false:=by assumption
      rw[bN]at C;omega
     ·rw[j.out];congr 4
    ·refine bodyPost_ret (v:=.tuple #[.int .i64 0,FJ 2 ((k:Int)+1)]) (by simp[results,Tryz.results190,go_sem,FJ]) rfl ⟨(Below.refl _ _).alloc (AG _) _,.inr ⟨?_,_,_,by decide,rfl⟩⟩
     rw[p.out];omega
  ·have j:Hid (Bg (s.data.toList.drop 1)=k):=Hd (by
    have i:=t.out.2;rw[show s.data.toList.drop (1+k)=[] from List.drop_of_length_le (by simp;omega)]at i;simpa [Bg] using i)
   go_wp2;refine bodyPost_ret (v:=.tuple #[.int .i64 0,FJ 4 ((s.size:Int))]) (by simp[results,Tryz.results190,go_sem,FJ]) rfl ⟨(Below.refl _ _).alloc (AG _) _,.inr ⟨?_,_,_,by decide,rfl⟩⟩;unfold Gl;rw[j.out];omega
theorem ZS(s:ByteArray)(U:s.size<=4611686018427387904)(w:World):Calls Tryz.prog 139 #[.string s] w fun e w'=>e=.returned (.bool (Cl s.data.toList))/\Below w.heap.size w w':=by
 by_cases h0:s.size=0
 ·obtain rfl:=QP h0
  go_enter Tryz.func139,Tryz.ntmps139
  go_wp2;go_ret;exact⟨rfl,Below.refl _ _⟩
 have t:0<s.size:=by omega
 have a2:s.toList.isEmpty=false:=by rw[LF,LH];exact decide_eq_false h0
 by_cases l:s[0]=39
 ·have T:((s[0].toNat:Int) != 39)=false:=by rw[l];rfl
  have C:s.data.toList.head?=some 39:=by rw[MK s t,l]
  have P:=Hd (VJ s U t w);have R:=Hd (fun i:Gl s=>O3 i C);have J:=Hd (fun i:¬Gl s=>Sc i);clear C l h0;generalize j:Cl s.data.toList=b at *;have a0:=Hd j;clear j;go_enter Tryz.func139,Tryz.ntmps139
  go_wp2_with fail
  refine P.out.mono ?_;rintro e w' ⟨j,⟨i,rfl⟩|⟨i,k,a3,I,rfl⟩⟩
  ·have o:=Hd j
   have p:=Hd (R.out i);clear j i;unfold FJ;generalize Bg (s.data.toList.drop 1)=k at *;go_wp2;go_ret;refine⟨BB ?_,o.out.alloc o.out.size _⟩;rw[p.out,Bool.eq_iff_iff,beq_iff_eq,beq_iff_eq];omega
  ·have o:=Hd j
   have p:=Hd (J.out i);have a1:(k==0)=false:=by simpa using I
   clear j i I;unfold FJ;go_wp2;go_ret;exact⟨BB p.out.symm,o.out.alloc o.out.size _⟩
 ·have T:((s[0].toNat:Int) != 39)=true:=by
   rw[bne_iff_ne];intro e;exact l (UInt8.toNat_inj.1 (by show s[0].toNat=39;omega))
  rw[Pr (by rw[MK s t];simpa using l)];clear l h0;go_enter Tryz.func139,Tryz.ntmps139
  go_wp2;go_ret;exact⟨rfl,Below.refl _ _⟩
structure Ru where
 left:Int
 v:Value
 right:List Int
structure Gm where
 T:List ByteArray
 N:List ByteArray
 s:Int
 R:List Ru
def GA(s:ByteArray):Bool:=Cg s.data.toList
def GK(s:ByteArray):Bool:=Cg s.data.toList||Cl s.data.toList
def Gf(r:Ru):Bool:=decide (r.right.length<=8)
def CI(a b:Ru):Bool:=a.left==b.left&&a.right==b.right
def T8(l:List Int):Prop:=∀(i:Nat) (x y:Int),l[i]?=some x->l[i+1]?=some y->x<=y
def Un(l:List Ru):Prop:=∀(i j:Nat) (x r:Ru),j<i->l[j]?=some x->l[i]?=some r->CI x r=false
namespace Gm
def term(g:Gm)(s:Int):Bool:=decide (1<=s)&&decide (s<=(g.T.length:Int))
def AV(g:Gm)(s:Int):Bool:=decide ((g.T.length:Int)<s)&&decide (s<=(g.T.length:Int)+(g.N.length:Int))
def sym(g:Gm)(s:Int):Bool:=g.term s||g.AV s
def DH(g:Gm):Bool:=(decide (g.T.length<=120)&&decide (g.N.length<=120))&&(decide (g.R.length<=300)&&g.R.all Gf)
def form(g:Gm):Bool:=g.T.all GK&&g.N.all GA
def once(g:Gm):Bool:=decide ((g.T++g.N).Nodup)
def EN(g:Gm)(r:Ru):Bool:=g.AV r.left&&r.right.all g.sym
def known(g:Gm):Bool:=g.AV g.s&&g.R.all g.EN
open Classical in
noncomputable def E6 (g:Gm):Bool:=decide (Un g.R)
def left(k:Int)(r:Ru):Bool:=r.left==k
def each(g:Gm):Bool:=(List.range g.N.length).all fun i=>g.R.any (left ((g.T.length:Int)+1+i))
noncomputable def check (g:Gm):Int:=if g.DH then(if g.form then(if g.once then(if g.known then(if g.E6 then(if g.each then 0 else 9) else 8) else 1) else 8) else 10) else 7
def first(g:Gm)(i:Nat):Nat:=g.R.findIdx (left ((g.T.length:Int)+1+i))
def Oc(g:Gm):List Int:=(List.range g.N.length).map fun i=>(g.first i:Int)
open Classical in
noncomputable def ordered (g:Gm):Bool:=decide (T8 g.Oc)
def name(g:Gm)(s:Int):ByteArray:=if s=0 then⟨#[36]⟩ else if s<1\/(g.T.length:Int)+(g.N.length:Int)<s then⟨#[]⟩ else(g.T++g.N).getD (s-1).toNat ⟨#[]⟩
def small(g:Gm):Prop:=(∀s∈g.T,s.size<=1048576)/\(∀s∈g.N,s.size<=1048576)/\g.T.length<=1048576/\g.N.length<=1048576/\g.R.length<=1048576/\∀r∈g.R,r.right.length<=1048576
end Gm
def str(l:List UInt8):ByteArray:=⟨l.toArray⟩
theorem Xn(a:ByteArray):str a.data.toList=a:=by unfold str;simp
theorem Lr(l:List UInt8):(str l).data.toList=l:=by unfold str;simp
theorem Km(l:List UInt8):(str l).size=l.length:=by unfold str;rfl
def Bs(s:ByteArray):Value:=.string s
def BF(n:Int):Value:=.int .i64 n
def CY(r:Ru):Value:=.agg #[.int .i64 r.left,r.v]
def Bb(w:World)(b:Bool)(e:Ending)(w':World):Prop:=e=.returned (.bool b)/\Below w.heap.size w w'
structure Bj{α:Type}(E:α->Value)(w:World)(v:Value)(l:List α):Prop where
 EF:∃A c,v=.slice A l.length c/\∀k x,l[k]?=some x->∃b off,A=some ⟨b,off,none⟩/\b<w.heap.size/\w.cell? ⟨b,off+k,none⟩=some (E x)
 short:l.length<=4611686018427387904
 room:∀A n c,v=.slice A n c->n<=c/\(A=none->c=0)
theorem Bj.later{o:Type}{E:o->Value}{w w':World}{v:Value}{l:List o}(h:Bj E w v l)(i:Below w.heap.size w w'):Bj E w' v l:=by obtain⟨⟨A,c,P,t⟩,J,I⟩:=h;refine⟨⟨A,c,P,fun k x R=>?_⟩,J,I⟩;obtain⟨b,off,p,j,C⟩:=t k x R;exact⟨b,off,p,A0 j i.size,(i.cell (p:=⟨b,off+k,none⟩) j).trans C⟩
theorem Bj.nil{i:Type}{E:i->Value}(w:World)(A:Option Addr)(c:Nat)(h:A=none->c=0):Bj E w (.slice A 0 c) []:=⟨⟨A,c,rfl,fun k x h=>by simp at h⟩,by simp,fun _ _ _ e=>by cases e;exact⟨AP _,h⟩⟩
theorem Bj.take{p:Type}{E:p->Value}{w:World}{A:Option Addr}{n c:Nat}{l:List p}(h:Bj E w (.slice A n c) l)(k:Nat)(I:k<=n)(j:Nat)(C:k<=j/\(A=none->j=0)):Bj E w (.slice A k j) (l.take k):=by
 obtain⟨⟨P,c1,J,t⟩,R⟩:=h;cases J
 refine⟨⟨A,j,by rw[List.length_take,Nat.min_eq_left I],fun i x o=>?_⟩,by rw[List.length_take];omega,fun _ _ _ e=>by cases e;exact C⟩;rw[List.getElem?_take]at o;split at o
 ·exact t i x o
 ·cases o
theorem Bj.src{C:Type}{E:C->Value}{w:World}{v:Value}{l:List C}(h:Bj E w v l)(J:∀x,(E x).oneCell'=true):Bc w v l.length 1 (l.map E):=by
 obtain⟨⟨A,c,p,t⟩,hs,U⟩:=h;refine⟨fun u i=>?_,?_⟩
 ·obtain⟨x,_,rfl⟩:=List.mem_map.1 i
  exact J x
 ·cases A with
  | none=>
   left;have T:l=[]:=by
    cases l with
    | nil=>rfl
    | cons x r=>obtain⟨b,off,o,_⟩:=t 0 x rfl;cases o
   have h0:=(U _ _ _ p).2 rfl;subst T h0;exact⟨p,rfl,rfl⟩
  | some I=>
   right;refine⟨I,c,p,by simp,fun j u i=>?_⟩;rw[pG]at i;obtain⟨x,hx,rfl⟩:=Option.map_eq_some_iff.1 i;obtain⟨b,off,o,_,R⟩:=t j x hx;cases o
   have P:(⟨b,off,none⟩:Addr).add j=⟨b,off+j,none⟩:=by
    unfold Addr.add;split
    ·rename_i h0;simp_all
    ·rfl
   rw[P];exact R
structure ET(w:World)(v:Value)(l:List Ru):Prop where
 EF:∃A c,v=.slice A l.length c/\∀k r,l[k]?=some r->∃b off,A=some ⟨b,off,none⟩/\b<w.heap.size/\w.cell? ⟨b,off+k*2,none⟩=some (.int .i64 r.left)/\w.cell? ⟨b,off+k*2+1,none⟩=some r.v/\Bj BF w r.v r.right
 short:l.length<=4611686018427387904
 room:∀A n c,v=.slice A n c->n<=c/\(A=none->c=0)
theorem ET.later{w w':World}{v:Value}{l:List Ru}(h:ET w v l)(i:Below w.heap.size w w'):ET w' v l:=by obtain⟨⟨A,c,T,I⟩,R,P⟩:=h;refine⟨⟨A,c,T,fun k r J=>?_⟩,R,P⟩;obtain⟨b,off,C,j,o,p,t⟩:=I k r J;exact⟨b,off,C,A0 j i.size,(i.cell (p:=⟨b,off+k*2,none⟩) j).trans o,(i.cell (p:=⟨b,off+k*2+1,none⟩) j).trans p,t.later i⟩
theorem ET.take{w:World}{A:Option Addr}{n c:Nat}{l:List Ru}(h:ET w (.slice A n c) l)(k:Nat)(C:k<=n)(j:Nat)(t:k<=j/\(A=none->j=0)):ET w (.slice A k j) (l.take k):=by
 obtain⟨⟨J,c1,I,p⟩,P⟩:=h;cases I
 refine⟨⟨A,j,by rw[List.length_take,Nat.min_eq_left C],fun i x o=>?_⟩,by rw[List.length_take];omega,fun _ _ _ e=>by cases e;exact t⟩;rw[List.getElem?_take]at o;split at o
 ·exact p i x o
 ·cases o
theorem ET.mem{w:World}{v:Value}{l:List Ru}(h:ET w v l){r:Ru}(t:r∈l):Bj BF w r.v r.right:=by obtain⟨⟨A,c,I,j⟩,C⟩:=h;obtain⟨k,p,o⟩:=List.mem_iff_getElem.1 t;exact(j k r (by rw[<-o];exact eG p)).elim fun _ ⟨_,_,_,_,_,i⟩=>i
structure Ci(w:World)(v:Value)(g:Gm):Prop where
 EF:∃vT vN vR,v=.agg #[vT,vN,vR,.int .i64 g.s]/\Bj Bs w vT g.T/\Bj Bs w vN g.N/\ET w vR g.R
 small:g.small
theorem Ci.later{w w':World}{v:Value}{g:Gm}(h:Ci w v g)(i:Below w.heap.size w w'):Ci w' v g:=by obtain⟨⟨J,C,I,t,j,l,o⟩,p⟩:=h;exact⟨⟨J,C,I,t,j.later i,l.later i,o.later i⟩,p⟩
structure Pm(w:World)(v:Value)(r:Ru):Prop where
 EF:v=CY r
 right:Bj BF w r.v r.right
def Gp{i:Type}(p:i->Bool)(l:List i):Int:=if l.any p then(l.findIdx p:Nat) else -1
theorem LP{i:Type}{p:i->Bool}{l:List i}{k:Nat}{x:i}(J:l[k]?=some x)(t:p x=true)(C:∀j y,j<k->l[j]?=some y->p y=false):Gp p l=k:=by obtain⟨o,rfl⟩:=sG.1 J;unfold Gp;rw[if_pos (List.any_eq_true.2 ⟨_,List.getElem_mem o,t⟩)];congr 1;rw[List.findIdx_eq o];exact⟨t,fun j I=>C j _ I (eG (by omega))⟩
theorem Mh{t:Type}{p:t->Bool}{l:List t}(C:∀j y,j<l.length->l[j]?=some y->p y=false):Gp p l = -1:=by unfold Gp;rw[if_neg];rw[List.any_eq_true];rintro⟨x,J,o⟩;obtain⟨k,i,I⟩:=List.mem_iff_getElem.1 J;rw[C k x i (by rw[<-I];exact eG i)]at o;cases o
theorem Ls{i:Type}(p:i->Bool)(l:List i):decide (0<=Gp p l)=l.any p:=by
 unfold Gp;cases h:l.any p with
 | true=>rw[if_pos rfl,decide_eq_true_eq];omega
 | false=>rw[if_neg (by simp),decide_eq_false_iff_not];omega
theorem Ay(w:World)(o:Obj):Below w.heap.size w (w.alloc o):=(Below.refl _ w).alloc (AG _) o
theorem Dm{w w':World}{o:Obj}(h:Below (w.alloc o).heap.size (w.alloc o) w'):Below w.heap.size w w':=
 ((Below.refl _ w).alloc (AG _) o).trans (h.mono (by simp))
theorem MZ{i:Type}(p:i->Bool)(l:List i):(!l.any fun x=>!p x)=l.all p:=by rw[List.all_eq_not_any_not]
end Go.Proofs.YthaacmablcpdfaaGreatDoor
