/- Bytes and names. The program's Name. What is quoted. Grammars. Lists and grammars as they lie. -/
import Derived.Test.YthaacmablcpdfaaGreatDoorRows
import Derived.Test.YthaacmablcpdfaaGreatDoorXaa
import Derived.WalkSpells
import Derived.WalkLawsBesides
import Derived.BigQuiet
import Derived.Deep.QuietTactic
import Derived.Laws.RangeString
import Derived.Laws.RangeAny
import Derived.Test.YthaacmablcpdfaaGreatDoorXnm
set_option linter.all false
set_option maxRecDepth 100000
set_option maxHeartbeats 16000000
namespace Go.Proofs.YthaacmablcpdfaaGreatDoor
open Go.RowKit
variable{w':World}{i:Type}{A:Option Addr}
def Ci{a b:Bool}(h:a=b):Ending.returned (.bool a)=.returned (.bool b):=by rw[h]
def BM(c:UInt8):Nat:=
 if c=0 then 0 else if c=32\/c=9 then 1 else if c=10 then 2
 else if c=38\/c=124\/c=59\/c=60\/c=62\/c=40\/c=41 then 5
 else if c=39\/c=34\/c=92\/c=96 then 6
 else if c=36 then 7
 else if 48<=c/\c<=57 then 3
 else if c=95\/(97<=c|||32/\c|||32<=122) then 4
 else 8
def NL(n o:Int):Nat:=if 48<=n/\n<=57 then 3 else if n=95\/(97<=o/\o<=122) then 4 else 8
def NS(n o:Int):Nat:=
 if n=0 then 0 else if n=32\/n=9 then 1 else if n=10 then 2
 else if n=38\/n=124\/n=59\/n=60\/n=62\/n=40\/n=41 then 5
 else if n=39\/n=34\/n=92\/n=96 then 6
 else if n=36 then 7 else NL n o
def Kx:List UInt8:=(List.range 256).map UInt8.ofNat
def Lr(c:UInt8):c∈Kx:=List.mem_map.2 ⟨c.toNat,List.mem_range.2 c.toNat_lt,by simp⟩
def cM:Kx.all (fun c=>NS c.toNat (bits .or .u8 c.toNat 32)==BM c)=true:=by kernel_rfl
def Z3(c:UInt8):NS c.toNat (bits .or .u8 c.toNat 32)=BM c:=by have:=List.all_eq_true.1 cM c (Lr c);exact beq_iff_eq.1 this
def YR(c:UInt8)(w:World):() 205 #[.int .u8 c.toNat] w fun e w'=>e=.returned (.int .i64 (NL c.toNat (bits .or .u8 c.toNat 32)))/\w'=w:=by
 go_enter Tryz.func205,Tryz.ntmps205
 generalize (c.toNat:Int)=n;go_wp2;all_goals go_ret
 all_goals refine⟨?_,rfl⟩
 all_goals refine congrArg (fun k:Int=>Ending.returned (Value.int .i64 k)) ?_
 all_goals (
  unfold NL;try simp only[beq_iff_eq,bN]at *
  repeat' split
  all_goals first|rfl|(exfalso;omega))
def Oy(c:UInt8)(w:World):() 164 #[.int .u8 c.toNat] w fun e w'=>e=.returned (.int .i64 (BM c))/\w'=w:=by
 rw[<-Z3];have i:=Hd (YR c);go_enter Tryz.func164,Tryz.ntmps164
 go_wp2_with (go_at_call 205;refine(i _).mono ?_;rintro e w' ⟨rfl,rfl⟩)
 all_goals go_ret
 all_goals refine⟨?_,rfl⟩
 all_goals refine congrArg (fun k:Int=>Ending.returned (Value.int .i64 k)) ?_
 all_goals clear i
 all_goals generalize (c.toNat:Int)=n at *
 all_goals (
  unfold NS;try simp only[beq_iff_eq,bN]at *
  repeat' split
  all_goals first|rfl|(exfalso;omega))
def IL(n:Int):Nat:=
 if n=0 then 0 else if n=32\/n=9 then 1 else if n=10 then 2
 else if 48<=n/\n<=57 then 3
 else if (97<=n/\n<=122)\/(65<=n/\n<=90)\/n=95 then 4
 else if n=38\/n=124\/n=59\/n=60\/n=62\/n=40\/n=41 then 5
 else if n=39\/n=34\/n=92\/n=96 then 6
 else if n=36 then 7 else 8
def eY:Kx.all (fun c=>IL c.toNat==BM c)=true:=by kernel_rfl
def YK(c:UInt8):IL c.toNat=BM c:=by have:=List.all_eq_true.1 eY c (Lr c);exact beq_iff_eq.1 this
def FW{a b:Nat}(h:a=b):Ending.returned (.int .i64 (a:Int))=.returned (.int .i64 (b:Int)):=by rw[h]
def jH(c:UInt8)(w:World):() 210 #[.int .u8 c.toNat] w fun e w'=>e=.returned (.int .i64 (BM c))/\w=w':=by
 rw[<-YK];generalize (c.toNat:Int)=n;have a9:(n<48)\/(48<=n/\n<=57)\/(57<n/\n<65)\/(65<=n/\n<=90)\/(90<n/\n<97)\/(97<=n/\n<=122)\/(122<n):=by omega
 rcases a9 with h|h|h|h|h|h|h
 ·have i:n<48:=by omega
  have j:n<65:=by omega
  have l:n<97:=by omega
  have a7:(n==95)=false:=bN.2 (by omega);have P:(n==124)=false:=bN.2 (by omega);have a3:(n==59)=false:=bN.2 (by omega);have a4:(n==60)=false:=bN.2 (by omega);have a5:(n==62)=false:=bN.2 (by omega);have a6:(n==92)=false:=bN.2 (by omega);have a8:(n==96)=false:=bN.2 (by omega);clear h;go_enter Tryz.func210,Tryz.ntmps210
  go_wp2;all_goals go_ret
  all_goals refine⟨FW ?_,rfl⟩
  all_goals first
   | rfl
   | decide
   | (
    unfold IL;try simp only[beq_iff_eq,bN]at *
    repeat' split
    all_goals first|rfl|(exfalso;omega))
 ·have i:48<=n:=by omega
  have j:n<=57:=by omega
  have o:(n==0)=false:=bN.2 (by omega);have t:(n==32)=false:=bN.2 (by omega);have C:(n==9)=false:=bN.2 (by omega);have p:(n==10)=false:=bN.2 (by omega);clear h;go_enter Tryz.func210,Tryz.ntmps210
  go_wp2;all_goals go_ret
  all_goals refine⟨FW ?_,rfl⟩
  all_goals first
   | rfl
   | decide
   | (
    unfold IL;try simp only[bN]at *
    repeat' split
    all_goals first|rfl|(exfalso;omega))
 ·have i:48<=n:=by omega
  have j:57<n:=by omega
  have l:n<65:=by omega
  have I:n<97:=by omega
  have o:(n==0)=false:=bN.2 (by omega);have t:(n==32)=false:=bN.2 (by omega);have C:(n==9)=false:=bN.2 (by omega);have p:(n==10)=false:=bN.2 (by omega);have a7:(n==95)=false:=bN.2 (by omega);have U:(n==38)=false:=bN.2 (by omega);have P:(n==124)=false:=bN.2 (by omega);have a1:(n==40)=false:=bN.2 (by omega);have a2:(n==41)=false:=bN.2 (by omega);have a0:(n==39)=false:=bN.2 (by omega);have R:(n==34)=false:=bN.2 (by omega)
  have a6:(n==92)=false:=bN.2 (by omega);have a8:(n==96)=false:=bN.2 (by omega);have T:(n==36)=false:=bN.2 (by omega);clear h;go_enter Tryz.func210,Tryz.ntmps210
  go_wp2;all_goals go_ret
  all_goals refine⟨FW ?_,rfl⟩
  all_goals first
   | rfl
   | decide
   | (
    unfold IL;try simp only[beq_iff_eq,bN]at *
    repeat' split
    all_goals first|rfl|(exfalso;omega))
 ·have i:48<=n:=by omega
  have j:57<n:=by omega
  have l:65<=n:=by omega
  have I:n<=90:=by omega
  have J:n<97:=by omega
  have o:(n==0)=false:=bN.2 (by omega);have t:(n==32)=false:=bN.2 (by omega);have C:(n==9)=false:=bN.2 (by omega);have p:(n==10)=false:=bN.2 (by omega);clear h;go_enter Tryz.func210,Tryz.ntmps210
  go_wp2;all_goals go_ret
  all_goals refine⟨FW ?_,rfl⟩
  all_goals first
   | rfl
   | decide
   | (
    unfold IL;try simp only[bN]at *
    repeat' split
    all_goals first|rfl|(exfalso;omega))
 ·have i:48<=n:=by omega
  have j:57<n:=by omega
  have l:65<=n:=by omega
  have I:90<n:=by omega
  have J:n<97:=by omega
  have o:(n==0)=false:=bN.2 (by omega);have t:(n==32)=false:=bN.2 (by omega);have C:(n==9)=false:=bN.2 (by omega);have p:(n==10)=false:=bN.2 (by omega);have U:(n==38)=false:=bN.2 (by omega);have P:(n==124)=false:=bN.2 (by omega);have a3:(n==59)=false:=bN.2 (by omega);have a4:(n==60)=false:=bN.2 (by omega);have a5:(n==62)=false:=bN.2 (by omega);have a1:(n==40)=false:=bN.2 (by omega);have a2:(n==41)=false:=bN.2 (by omega)
  have a0:(n==39)=false:=bN.2 (by omega);have R:(n==34)=false:=bN.2 (by omega);have T:(n==36)=false:=bN.2 (by omega);clear h;go_enter Tryz.func210,Tryz.ntmps210
  go_wp2;all_goals go_ret
  all_goals refine⟨FW ?_,rfl⟩
  all_goals first
   | rfl
   | decide
   | (
    unfold IL;try simp only[beq_iff_eq,bN]at *
    repeat' split
    all_goals first|rfl|(exfalso;omega))
 ·have i:48<=n:=by omega
  have j:57<n:=by omega
  have l:97<=n:=by omega
  have I:n<=122:=by omega
  have o:(n==0)=false:=bN.2 (by omega);have t:(n==32)=false:=bN.2 (by omega);have C:(n==9)=false:=bN.2 (by omega);have p:(n==10)=false:=bN.2 (by omega);clear h;go_enter Tryz.func210,Tryz.ntmps210
  go_wp2;all_goals go_ret
  all_goals refine⟨FW ?_,rfl⟩
  all_goals first
   | rfl
   | decide
   | (
    unfold IL;try simp only[bN]at *
    repeat' split
    all_goals first|rfl|(exfalso;omega))
 ·have i:48<=n:=by omega
  have j:57<n:=by omega
  have l:65<=n:=by omega
  have I:90<n:=by omega
  have J:97<=n:=by omega
  have q5:122<n:=by omega
  have o:(n==0)=false:=bN.2 (by omega);have t:(n==32)=false:=bN.2 (by omega);have C:(n==9)=false:=bN.2 (by omega);have p:(n==10)=false:=bN.2 (by omega);have a7:(n==95)=false:=bN.2 (by omega);have U:(n==38)=false:=bN.2 (by omega);have a3:(n==59)=false:=bN.2 (by omega);have a4:(n==60)=false:=bN.2 (by omega);have a5:(n==62)=false:=bN.2 (by omega);have a1:(n==40)=false:=bN.2 (by omega);have a2:(n==41)=false:=bN.2 (by omega)
  have a0:(n==39)=false:=bN.2 (by omega);have R:(n==34)=false:=bN.2 (by omega);have a6:(n==92)=false:=bN.2 (by omega);have a8:(n==96)=false:=bN.2 (by omega);have T:(n==36)=false:=bN.2 (by omega);clear h;go_enter Tryz.func210,Tryz.ntmps210
  go_wp2;all_goals go_ret
  all_goals refine⟨FW ?_,rfl⟩
  all_goals first
   | rfl
   | decide
   | (
    unfold IL;try simp only[bN]at *
    repeat' split
    all_goals first|rfl|(exfalso;omega))
def F9:List UInt8->Bool
 | []=>false
 | c::r=>BM c==4&&r.all fun d=>BM d==4||BM d==3
def Hz(s:ByteArray)(k:Nat)(h:k<s.size):s.data.toList.drop k=s[k]::s.data.toList.drop (k+1):=by rw[List.drop_eq_getElem_cons (by simpa using h)];rfl
def M4(s:ByteArray):s.data.toList.drop s.size=[]:=List.drop_of_length_le (by simp)
theorem M5(s:ByteArray):s.data.toList.isEmpty=decide (s.size=0):=by
 have h:s.data.toList.length=s.size:=by simp
 cases i:s.data.toList with
 | nil=>rw[i]at h;simp at h;simp[<-h]
 | cons a l=>rw[i]at h;simp at h;simp[<-h]
def size_pos(s:ByteArray):decide (0<s.size)=(!decide (s.size=0)&&true):=by rw[Bool.eq_iff_iff,Bool.and_true,Bool.not_eq_true',decide_eq_true_eq,decide_eq_false_iff_not];omega
def KZ(l:List UInt8):Bool:=l.all fun d=>BM d==4||BM d==3
def Dr(k:Nat)(l:List UInt8):Bool:=if k=0 then(match l with|[]=>true|c::r=>BM c==4&&KZ r) else KZ l
theorem PQ(s:ByteArray):F9 s.data.toList=(!decide (s.size=0)&&Dr 0 s.data.toList):=by
 rw[<-M5];cases s.data.toList with
 | nil=>rfl
 | cons c r=>simp[F9,Dr,KZ]
def dP(s:ByteArray)(hs:s.size<=9223372036854775807)(w:World):() 189 #[.string s] w fun e w'=>e=.returned (.bool (F9 s.data.toList))/\w=w':=by
 have J:=Hd (PQ s);go_enter Tryz.func189,Tryz.ntmps189
 go_wp2
 go_loop [3,4] (fun i _=>∃k:Nat,k<=s.size/\i=.int .i64 k/\Hid (Dr 0 s.data.toList=Dr k (s.data.toList.drop k))) (fun i _=>s.size-(intOf i).toNat)
 case atStart=>exact⟨0,AZ _,rfl,Hd rfl⟩
 case round=>
  obtain⟨k,hk,rfl,I⟩:=hrel;by_cases U:k<s.size
  ·have P:=Hd (Hz s k U)
   have o:=Hd (jH s[k] w);have hz:s.size≠0:=by omega
   by_cases t:BM s[k]=4\/(BM s[k]=3/\k≠0)
   ·have C:Hid (Dr 0 s.data.toList=Dr (k+1) (s.data.toList.drop (k+1))):=Hd (by
     rw[I.out,P.out];unfold Dr;rw[if_neg (Nat.succ_ne_zero k)];by_cases j:k=0
     ·rw[if_pos j]
      have p:BM s[k]=4:=by omega
      simp[p]
     ·rw[if_neg j]
      rcases t with h|h
      ·simp[KZ,h]
      ·simp[KZ,h.1])
    rcases t with p|⟨l,j⟩
    ·rw[p]at o
     clear p;go_wp2_with (go_at_call 210;refine o.mono ?_;rintro e w' ⟨rfl,rfl⟩)
     go_round
     case rel=>exact⟨k+1,by omega,by go_num,C⟩
     case measure=>simp[intOf];omega
    ·rw[l]at o
     have a1:((k:Int)==0)=false:=by simp;omega
     clear l;go_wp2_with (go_at_call 210;refine o.mono ?_;rintro e w' ⟨rfl,rfl⟩)
     go_round
     case rel=>exact⟨k+1,by omega,by go_num,C⟩
     case measure=>simp[intOf];omega
   ·have C:Hid (Dr 0 s.data.toList=false):=Hd (by
     rw[I.out,P.out];unfold Dr;have p:BM s[k]≠4:=fun h=>t (.inl h)
     by_cases j:k=0
     ·rw[if_pos j]
      simp[p]
     ·rw[if_neg j]
      have l:BM s[k]≠3:=fun h=>t (.inr ⟨h,j⟩)
      simp[KZ,p,l])
    have a0:((BM s[k]:Int) != 4)=true:=by
     have:BM s[k]≠4:=fun h=>t (.inl h)
     simp;omega
    by_cases l:BM s[k]=3
    ·have j:k=0:=by omega
     subst j;rw[l]at o;clear l t a0;go_wp2_with (go_at_call 210;refine o.mono ?_;rintro e w' ⟨rfl,rfl⟩)
     go_ret;exact⟨Ci (by rw[J.out,C.out,Bool.and_false]),rfl⟩
    ·have a2:((BM s[k]:Int) != 3)=true:=by simp;omega
     clear t;generalize BM s[k]=q at *;clear l;go_wp2_with (go_at_call 210;refine o.mono ?_;rintro e w' ⟨rfl,rfl⟩)
     go_ret;exact⟨Ci (by rw[J.out,C.out,Bool.and_false]),rfl⟩
  ·obtain rfl:k=s.size:=by omega
   have R:Dr 0 s.data.toList=true:=by rw[I.out,M4];unfold Dr;split<;>rfl
   have T:=Hd R;clear R I;go_wp2;go_ret;refine⟨Ci ?_,rfl⟩;rw[J.out,T.out];exact size_pos s
def EF(c:UInt8):Bool:=33<=c.toNat&&c.toNat<=126&&c.toNat != 39
def M8(n:Int):Bool:=decide (33<=n)&&decide (n<=126)&&!(n==39)
def fN:Kx.all (fun c=>M8 c.toNat==EF c)=true:=by kernel_rfl
def Sw(c:UInt8):M8 c.toNat=EF c:=beq_iff_eq.1 (List.all_eq_true.1 fN c (Lr c))
def Wm(c:UInt8)(w:World):() 185 #[.int .u8 c.toNat] w fun e w'=>e=.returned (.bool (EF c))/\w=w':=by
 rw[<-Sw];go_enter Tryz.func185,Tryz.ntmps185
 generalize (c.toNat:Int)=n;unfold M8;go_wp2;all_goals go_ret
 all_goals refine⟨Ci ?_,rfl⟩
 all_goals (rw[Bool.eq_iff_iff];simp[*]<;>omega)
def Xf(c:UInt8)(w:World):() 211 #[.int .u8 c.toNat] w fun e w'=>e=.returned (.bool (EF c))/\w=w':=by
 rw[<-Sw];go_enter Tryz.func211,Tryz.ntmps211
 generalize (c.toNat:Int)=n;unfold M8;go_wp2;all_goals go_ret
 all_goals refine⟨Ci ?_,rfl⟩
 all_goals (rw[Bool.eq_iff_iff];simp[*]<;>omega)
def Gt(l:List UInt8):Bool:=l.all fun c=>decide (c.toNat<128)
def ZD(s:ByteArray)(J:s.size<=9223372036854775807)(w:World):() 182 #[.string s] w fun e w'=>e=.returned (.bool (Gt s.data.toList))/\w=w':=by
 go_enter Tryz.func182,Tryz.ntmps182
 go_wp2
 go_loop [6] (fun i=>∃k:Nat,k<=s.size/\i=.int .i64 k/\Hid (Gt s.data.toList=Gt (s.data.toList.drop k))) (fun i=>s.size-(intOf i).toNat)
 case atStart=>exact⟨0,AZ _,rfl,Hd rfl⟩
 case round=>
  obtain⟨k,I,rfl,o⟩:=hrel;by_cases C:k<s.size
  ·have p:=Hd (Hz s k C)
   have l:Hid (Gt s.data.toList=(decide (s[k].toNat<128)&&Gt (s.data.toList.drop (k+1)))):=Hd (by rw[o.out,p.out];rfl);by_cases h:s[k].toNat<128
   ·have j:Hid (Gt s.data.toList=Gt (s.data.toList.drop (k+1))):=Hd (by rw[l.out,decide_eq_true h,Bool.true_and])
    have t:(s[k].toNat:Int)<128:=by omega
    clear h;go_wp2
    go_round
    case rel=>exact⟨k+1,by omega,by go_num,j⟩
    case measure=>simp[intOf];omega
   ·have j:Hid (Gt s.data.toList=false):=Hd (by rw[l.out,decide_eq_false h,Bool.false_and])
    have t:128<=(s[k].toNat:Int):=by omega
    clear h;go_wp2;go_ret;exact⟨Ci j.symm,rfl⟩
  ·obtain rfl:k=s.size:=by omega
   have j:Hid (Gt s.data.toList=true):=Hd (by rw[o.out,M4];rfl);go_wp2;go_ret;exact⟨Ci j.symm,rfl⟩
def nameAt(i:Int)(q:Int):Bool:=(q==4)||((q==3)&&decide (0<i))
def aT(i:Int)(c:UInt8)(w:World):() 184 #[i,.int .u8 c.toNat] w fun e w'=>e=.returned (.bool (nameAt i (BM c)))/\w=w':=by
 have j:=Hd (Oy c w);generalize (BM c:Int)=q at *;unfold nameAt;go_enter Tryz.func184,Tryz.ntmps184
 go_wp2_with (go_at_call 164;refine j.mono ?_;rintro e w' ⟨rfl,rfl⟩)
 all_goals go_ret
 all_goals exact⟨Ci (by simp[*]),rfl⟩
def U1(k:Nat)(c:UInt8):nameAt k (BM c)=(BM c==4||(BM c==3&&k != 0)):=by
 have i:((BM c:Int)==4)=(BM c==4):=by rw[Bool.eq_iff_iff,beq_iff_eq,beq_iff_eq];omega
 have j:((BM c:Int)==3)=(BM c==3):=by rw[Bool.eq_iff_iff,beq_iff_eq,beq_iff_eq];omega
 have l:decide ((0:Int)<(k:Int))=(k != 0):=by rw[Bool.eq_iff_iff,decide_eq_true_eq,bne_iff_ne];omega
 unfold nameAt;rw[i,j,l]
def cS(s:ByteArray)(k:Nat)(h:k<s.size)(l:Dr 0 s.data.toList=Dr k (s.data.toList.drop k)):Dr 0 s.data.toList=(nameAt k (BM s[k])&&Dr (k+1) (s.data.toList.drop (k+1))):=by
 rw[l,Hz s k h,U1];unfold Dr;rw[if_neg (Nat.succ_ne_zero k)];by_cases i:k=0
 ·rw[if_pos i];simp[i]
 ·have j:(k != 0)=true:=by simpa using i
  rw[if_neg i,j,Bool.and_true];rfl
def Rz(w:World)(s:ByteArray)(k:Nat):Below w w (w.iter s k):=(Below.refl _ _).alloc (AG _) _
def WG(s:ByteArray)(U:s.size<=9223372036854775807)(ha:Gt s.data.toList=true)(w:World):() 183 #[.string s,.func (.func 184) #[] #[]] w fun e w'=>e=.returned (.bool (F9 s.data.toList))/\Below w w w':=by
 have J:Hid (∀k,∀h:k<s.size,s[k].toNat<128):=Hd (fun k h=>by
  have P:=List.all_eq_true.1 ha s[k] (by
   have:s.data.toList[k]?=some s[k]:=by rw[Array.getElem?_toList];exact Array.getElem?_eq_getElem h
   exact mG this)
  exact of_decide_eq_true P)
 have I:=Hd (PQ s);clear ha;go_enter Tryz.func183,Tryz.ntmps183
 go_wp2;go_loopw [] (fun wr=>∃k:Nat,k<=s.size/\wr=w.iter s k/\Hid (Dr 0 s.data.toList=Dr k (s.data.toList.drop k))) (fun wr=>s.size-wr.iterPos w.heap.size)
 case atStart=>exact⟨0,AZ _,rfl,Hd rfl⟩
 case round=>
  obtain⟨k,T,rfl,j⟩:=hrel;by_cases C:k<s.size
  ·have R:∀i,(Instr.next (w,0) true i).run Tryz.prog (w.iter s k)=_:=fun i=>run_next_ascii w s k i C (J k C)
   have p:=Hd (cS s k C j);have o:=Hd (aT k s[k] (w.iter s (k+1)));cases t:nameAt k (BM s[k]) with
   | true=>
    rw[t]at o p;have l:Hid (Dr 0 s.data.toList=Dr (k+1) (s.data.toList.drop (k+1))):=Hd (by rw[p.out,Bool.true_and]);clear t j;go_wp2_with (go_at_call 184;refine o.mono ?_;rintro e w' ⟨rfl,rfl⟩)
    go_roundw
    case rel=>exact⟨k+1,by omega,rfl,l⟩
    case measure=>simp;omega
   | false=>
    rw[t]at o p;have l:Hid (Dr 0 s.data.toList=false):=Hd (by rw[p.out,Bool.false_and]);clear t j;go_wp2_with (go_at_call 184;refine o.mono ?_;rintro e w' ⟨rfl,rfl⟩)
    go_ret;exact⟨Ci (by rw[I.out,l.out,Bool.and_false]),Rz w s _⟩
  ·have R:∀i,(Instr.next (w,0) true i).run Tryz.prog (w.iter s k)=_:=fun i=>run_next_end w s k i C
   obtain rfl:k=s.size:=by omega
   have l:Hid (Dr 0 s.data.toList=true):=Hd (by rw[j.out,M4];unfold Dr;split<;>rfl)
   clear j;go_wp2;go_ret;refine⟨Ci ?_,Rz w s _⟩;rw[I.out,l.out,Bool.and_true];rw[show s.toList=s.data.toList from ByteArray.toList_eq s,M5]
def Wg{c:UInt8}(h:¬c.toNat<128):BM c=8:=by have h0:=List.all_eq_true.1 (show Kx.all (fun c=>decide (c.toNat<128)||(BM c==8))=true by kernel_rfl) c (Lr c);rw[decide_eq_false h,Bool.false_or]at h0;exact beq_iff_eq.1 h0
theorem iP{l:List UInt8}(h:F9 l=true):Gt l=true:=by
 cases l with
 | nil=>cases h
 | cons c r=>
  simp only[F9,Bool.and_eq_true,beq_iff_eq,List.all_eq_true,Bool.or_eq_true]at h;unfold Gt;rw[List.all_eq_true];intro d i;rw[decide_eq_true_eq];by_cases j:d.toNat<128
  ·exact j
  ·have o:=Wg j
   rcases List.mem_cons.1 i with rfl|i
   ·omega
   ·rcases h.2 d i with e|e<;>omega
theorem UO(s:ByteArray)(o:s.size<=9223372036854775807)(w:World):() 130 #[.string s] w fun e w'=>e=.returned (.bool (F9 s.data.toList))/\Below w w w':=by
 have i:=Hd (ZD s o w);cases ha:Gt s.data.toList with
 | true=>
  rw[ha]at i;have t:=Hd (WG s o ha w);clear ha;go_enter Tryz.func130,Tryz.ntmps130
  go_wp2_with (go_at_call 182;refine i.mono ?_;rintro e w' ⟨rfl,rfl⟩)
  refine t.mono ?_;rintro e w' ⟨rfl,j⟩;have p:=Hd j;clear j;go_wp2;go_ret;exact⟨rfl,p⟩
 | false=>
  rw[ha]at i;have l:F9 s.data.toList=false:=by
   cases h:F9 s.data.toList with
   | false=>rfl
   | true=>rw[iP h]at ha;cases ha
  rw[l];clear ha l;go_enter Tryz.func130,Tryz.ntmps130
  go_wp2_with (go_at_call 182;refine i.mono ?_;rintro e w' ⟨rfl,rfl⟩)
  go_ret;exact⟨rfl,Below.refl _ _⟩
def CH(l:List UInt8):Bool:=F9 l&&decide (l.length<=24)
def G7(t:ByteArray):t.data.toList.length=t.size:=by simp
def Tu(s:ByteArray)(p:s.size<=9223372036854775807)(w:World):() 76 #[.string s] w fun e w'=>e=.returned (.bool (CH s.data.toList))/\Below w w w':=by
 have l:=Hd (UO s p w);unfold CH;rw[G7];generalize F9 s.data.toList=b at *;by_cases h:s.size<=24
 ·rw[decide_eq_true h,Bool.and_true]
  have o:(s.size:Int)<=24:=by omega
  clear h;go_enter Tryz.func76,Tryz.ntmps76
  go_wp2_with fail
  refine l.mono ?_;rintro e w' ⟨rfl,i⟩;have j:=Hd i;clear i;go_wp2;go_ret;exact⟨rfl,j⟩
 ·rw[decide_eq_false h,Bool.and_false]
  have o:¬(s.size:Int)<=24:=by omega
  clear h;go_enter Tryz.func76,Tryz.ntmps76
  go_wp2;go_ret;exact⟨rfl,Below.refl _ _⟩
def kG(s:ByteArray)(j:s.size<=9223372036854775807)(w:World):() 138 #[.string s] w fun e w'=>e=.returned (.bool (CH s.data.toList))/\w=w':=by
 have i:=Hd (dP s j w);unfold CH;rw[G7];generalize F9 s.data.toList=b at *;go_enter Tryz.func138,Tryz.ntmps138
 go_wp2_with (go_at_call 189;refine i.mono ?_;rintro e w' ⟨rfl,rfl⟩)
 all_goals go_ret
 all_goals refine⟨Ci ?_,rfl⟩
 all_goals (rw[Bool.eq_iff_iff];simp[*]<;>omega)
def Bn(l:List UInt8):Nat:=(l.takeWhile EF).length
def Uz(l:List UInt8):Bn l<=l.length:=(List.takeWhile_sublist EF).length_le
def Mt(c:UInt8)(l:List UInt8):Bn (c::l)=if EF c then Bn l+1 else 0:=by unfold Bn;rw[List.takeWhile_cons];split<;>simp
def LW(s:ByteArray)(p k:Nat):Prop:=p+k<=s.size/\Bn (s.data.toList.drop p)=k+Bn (s.data.toList.drop (p+k))
def Ny(s:ByteArray)(R:s.size<=4611686018427387904)(p:Nat)(P:p<=s.size)(w:World):() 161 #[.string s,p,.func (.func 185) #[] #[]] w fun e w'=>e=.returned (.int .i64 (Bn (s.data.toList.drop p)))/\w=w':=by
 go_enter Tryz.func161,Tryz.ntmps161
 go_wp2
 go_loop [7] (fun n=>∃k:Nat,p+k<=s.size/\n=.int .i64 k/\Hid (LW s p k)) (fun n=>s.size-(intOf n).toNat)
 case atStart=>exact⟨0,by omega,rfl,Hd ⟨by omega,by simp⟩⟩
 case round=>
  obtain⟨k,J,rfl,t⟩:=hrel;by_cases I:p+k<s.size
  ·have C:=Hd (Hz s (p+k) I)
   have o:=Hd (Wm s[p+k] w);cases j:EF s[p+k] with
   | true=>
    rw[j]at o;have l:Hid (LW s p (k+1)):=Hd ⟨by omega,by have i:=t.2;rw[C.out,Mt,if_pos j]at i;rw[i];show k+(Bn (s.data.toList.drop (p+k+1))+1)=k+1+Bn (s.data.toList.drop (p+(k+1)));rw[Nat.add_assoc p k 1];omega⟩
    clear j;go_wp2_with (go_at_call 185;refine o.mono ?_;rintro e w' ⟨rfl,rfl⟩)
    go_round
    case rel=>exact⟨k+1,by omega,by go_num,l⟩
    case measure=>simp[intOf];omega
   | false=>
    rw[j]at o;have l:Hid (Bn (s.data.toList.drop p)=k):=Hd (by have i:=t.2;rw[C.out,Mt,j]at i;simpa using i)
    clear j;go_wp2_with (go_at_call 185;refine o.mono ?_;rintro e w' ⟨rfl,rfl⟩)
    go_ret;exact⟨FW l.symm,rfl⟩
  ·have l:Hid (Bn (s.data.toList.drop p)=k):=Hd (by
    have i:=t.2;rw[show s.data.toList.drop (p+k)=[] from List.drop_of_length_le (by simp;omega)]at i;simpa [Bn] using i)
   go_wp2;go_ret;exact⟨FW l.symm,rfl⟩
def Mg(k:Int)(i:k≠0)(p:Int)(w:World):() 67 #[k,p] w fun e w'=>e=.returned (.iface 202 (w,0))/\Below w w w':=by
 have h0:(k==0)=false:=by simpa using i
 clear i;go_enter Tryz.func67,Tryz.ntmps67
 go_wp2;go_ret;exact⟨rfl,(Below.refl _ _).alloc (AG _) _⟩
def GA(s:ByteArray):Prop:=1+Bn (s.data.toList.drop 1)<s.size/\s.data.toList[1+Bn (s.data.toList.drop 1)]?=some 39/\Bn (s.data.toList.drop 1)≠0/\1+Bn (s.data.toList.drop 1)<24
def get_some(s:ByteArray)(k:Nat)(h:k<s.size):s.data.toList[k]?=some s[k]:=by rw[Array.getElem?_toList];exact Array.getElem?_eq_getElem h
def Wk(s:ByteArray)(t:s.size<=4611686018427387904)(h:GA s)(w:World):() 131 #[.string s,.int .i64 0] w fun e w'=>e=.returned (.tuple #[.int .i64 ((Bn (s.data.toList.drop 1)+2:Nat):Int),.nilIface])/\w=w':=by
 obtain⟨o,i,p,C⟩:=h;have l:=Hd (Ny s t 1 (by omega) w);generalize Bn (s.data.toList.drop 1)=k at *;have j:s[1+k]=39:=by rw[get_some s _ o]at i;exact Option.some.inj i
 have I:((s[1+k].toNat:Int) != 39)=false:=by rw[j];rfl
 have J:((1:Int)+(k:Int)==1)=false:=bN.2 (by omega);clear i j p;go_enter Tryz.func131,Tryz.ntmps131
 go_wp2_with fail
 refine l.mono ?_;rintro e w' ⟨rfl,rfl⟩;go_wp2
 go_ret2
 exact⟨by simp;omega,rfl⟩
def jX(w:World)(e:Ending)(w':World):Prop:=∃A,e=.returned (.tuple #[.int .i64 0,.iface 202 (.pointer (some A))])/\Below w w w'
def dO(s:ByteArray)(P:s.size<=4611686018427387904)(h0:0<s.size)(h:¬GA s)(w:World):() 131 #[.string s,.int .i64 0] w (jX w):=by
 have p:=Hd (Ny s P 1 (by omega) w);have U:Bn (s.data.toList.drop 1)<s.size:=by have:=Uz (s.data.toList.drop 1);simp only[List.length_drop,G7]at this;omega
 unfold GA at h;generalize Bn (s.data.toList.drop 1)=k at *;by_cases I:1+k<s.size
 ·by_cases o:s[1+k]=39
  ·have J:((s[1+k].toNat:Int) != 39)=false:=by rw[o];rfl
   by_cases t:k=0
   ·subst t
    clear h o;go_enter Tryz.func131,Tryz.ntmps131
    go_wp2_with fail
    refine p.mono ?_;rintro e l ⟨rfl,rfl⟩;go_wp2_with (go_at_call 67;refine(Mg _ (by decide) _ _).mono ?_;rintro e l ⟨rfl,i⟩;have j:=Hd i;clear i)
    go_ret2
    exact⟨_,rfl,j⟩
   ·have T:((1:Int)+(k:Int)==1)=false:=bN.2 (by omega)
    have C:24<=1+k:=by
     by_cases C:1+k<24
     ·exfalso
      exact h ⟨I,by rw[get_some s _ I,o],t,C⟩
     ·omega
    have R:24<=(1:Int)+(k:Int):=by omega
    clear h o t C;go_enter Tryz.func131,Tryz.ntmps131
    go_wp2_with fail
    refine p.mono ?_;rintro e l ⟨rfl,rfl⟩;go_wp2_with (go_at_call 67;refine(Mg _ (by decide) _ _).mono ?_;rintro e l ⟨rfl,i⟩;have j:=Hd i;clear i)
    go_ret2
    exact⟨_,rfl,j⟩
  ·have J:((s[1+k].toNat:Int) != 39)=true:=by
    rw[bne_iff_ne];intro e;exact o (UInt8.toNat_inj.1 (by show s[1+k].toNat=39;omega))
   clear h o;go_enter Tryz.func131,Tryz.ntmps131
   go_wp2_with fail
   refine p.mono ?_;rintro e l ⟨rfl,rfl⟩;go_wp2_with (go_at_call 67;refine(Mg _ (by decide) _ _).mono ?_;rintro e l ⟨rfl,i⟩;have j:=Hd i;clear i)
   go_ret2
   exact⟨_,rfl,j⟩
 ·clear h
  go_enter Tryz.func131,Tryz.ntmps131
  go_wp2_with fail
  refine p.mono ?_;rintro e l ⟨rfl,rfl⟩;go_wp2_with (go_at_call 67;refine(Mg _ (by decide) _ _).mono ?_;rintro e l ⟨rfl,i⟩;have j:=Hd i;clear i)
  go_ret2
  exact⟨_,rfl,j⟩
def PM(s:ByteArray):s.toList=s.data.toList:=ByteArray.toList_eq s
def CD(l:List UInt8):Bool:=l.head?==some 39&&(decide (1+Bn (l.drop 1)<l.length)&&(l[1+Bn (l.drop 1)]?==some 39)&&(Bn (l.drop 1) != 0)&&decide (1+Bn (l.drop 1)<24))&&(Bn (l.drop 1)+2==l.length)
def Q1{s:ByteArray}(h:GA s)(h0:s.data.toList.head?=some 39):CD s.data.toList=(Bn (s.data.toList.drop 1)+2==s.size):=by obtain⟨i,j,l,o⟩:=h;unfold CD;rw[h0,j,G7,decide_eq_true i,decide_eq_true o,show (Bn (s.data.toList.drop 1) != 0)=true from bne_iff_ne.2 l];rfl
theorem TJ{s:ByteArray}(h:¬GA s):CD s.data.toList=false:=by
 cases i:CD s.data.toList with
 | false=>rfl
 | true=>exfalso;unfold CD at i;simp only[Bool.and_eq_true,decide_eq_true_eq,beq_iff_eq,bne_iff_ne,ne_eq,G7]at i;exact h ⟨i.1.2.1.1.1,i.1.2.1.1.2,i.1.2.1.2,i.1.2.2⟩
def TA{l:List UInt8}(h:l.head?≠some 39):CD l=false:=by unfold CD;rw[bN.2 h];rfl
def L2(s:ByteArray)(h:0<s.size):s.data.toList.head?=some s[0]:=by rw[List.head?_eq_getElem?];exact get_some s 0 h
def Q6{s:ByteArray}(h:s.size=0):s=⟨#[]⟩:=by have:s.data.toList=[]:=List.eq_nil_of_length_eq_zero (by rw[G7];exact h);exact ByteArray.ext (Array.ext' this)
def iC(s:ByteArray)(C:s.size<=4611686018427387904)(w:World):() 77 #[.string s] w fun e w'=>e=.returned (.bool (CD s.data.toList))/\Below w w w':=by
 by_cases h0:s.size=0
 ·obtain rfl:=Q6 h0
  go_enter Tryz.func77,Tryz.ntmps77
  go_wp2;go_ret;exact⟨rfl,Below.refl _ _⟩
 have p:0<s.size:=by omega
 have P:s.toList.isEmpty=false:=by rw[PM,M5];exact decide_eq_false h0
 by_cases i:s[0]=39
 ·have J:((s[0].toNat:Int) != 39)=false:=by rw[i];rfl
  have o:s.data.toList.head?=some 39:=by rw[L2 s p,i]
  by_cases j:GA s
  ·have l:=Hd (Wk s C j w)
   rw[Q1 j o];clear j o i h0;generalize Bn (s.data.toList.drop 1)=k at *;go_enter Tryz.func77,Tryz.ntmps77
   go_wp2_with fail
   refine l.mono ?_;rintro e w' ⟨rfl,rfl⟩;go_wp2;go_ret;refine⟨Ci ?_,Below.refl _ _⟩;rw[Bool.eq_iff_iff,beq_iff_eq,beq_iff_eq];omega
  ·have l:=Hd (dO s C p j w)
   rw[TJ j];clear j o i h0;go_enter Tryz.func77,Tryz.ntmps77
   go_wp2_with fail
   refine l.mono ?_;rintro e w' ⟨A,rfl,t⟩;have I:=Hd t;clear t;go_wp2;go_ret;exact⟨rfl,I⟩
 ·have J:((s[0].toNat:Int) != 39)=true:=by
   rw[bne_iff_ne];intro e;exact i (UInt8.toNat_inj.1 (by show s[0].toNat=39;omega))
  rw[TA (by rw[L2 s p];simpa using i)];clear i h0;go_enter Tryz.func77,Tryz.ntmps77
  go_wp2;go_ret;exact⟨rfl,Below.refl _ _⟩
def FX(e p:Int):Value:=.agg #[e,p]
def Wp(w:World)(s:ByteArray)(e:Ending)(w':World):Prop:=Below w w w' /\
 ((GA s/\e=.returned (.tuple #[.int .i64 ((Bn (s.data.toList.drop 1)+2:Nat):Int),FX 0 0]))\/(¬GA s/\∃k p,k≠0/\e=.returned (.tuple #[.int .i64 0,FX k p])))
def dD(s:ByteArray)(T:s.size<=4611686018427387904)(h0:0<s.size)(w:World):() 190 #[.string s,.int .i64 0] w (Wp w s):=by
 go_enter Tryz.func190,Tryz.ntmps190
 go_wp2
 go_loop [6] (fun n=>∃k:Nat,1+k<=s.size/\n=.int .i64 ((k:Int)+1)/\Hid (LW s 1 k)) (fun n=>s.size-(intOf n).toNat)
 case atStart=>exact⟨0,by omega,rfl,Hd ⟨by omega,by simp⟩⟩
 case round=>
  obtain⟨k,R,rfl,t⟩:=hrel;by_cases I:k+1<s.size
  ·have J:Hid (s.data.toList.drop (1+k)=s[k+1]::s.data.toList.drop (1+k+1)):=Hd (by rw[Nat.add_comm 1 k];exact Hz s (k+1) I)
   have o:=Hd (Xf s[k+1]);cases l:EF s[k+1] with
   | true=>
    rw[l]at o;have j:Hid (LW s 1 (k+1)):=Hd ⟨by omega,by have i:=t.2;rw[J.out,Mt,if_pos l]at i;rw[i];show k+(Bn (s.data.toList.drop (1+k+1))+1)=k+1+Bn (s.data.toList.drop (1+(k+1)));rw[Nat.add_assoc 1 k 1];omega⟩
    clear l;go_wp2_with (go_at_call 211;refine(o _).mono ?_;rintro e P ⟨rfl,rfl⟩)
    go_round
    case rel=>exact⟨k+1,by omega,by go_num,j⟩
    case measure=>simp[intOf];omega
   | false=>
    rw[l]at o;have j:Hid (Bn (s.data.toList.drop 1)=k):=Hd (by have i:=t.2;rw[J.out,Mt,l]at i;simpa using i)
    have p:Hid (GA s<->(s[k+1].toNat:Int)=39/\¬k=0/\k+1<24):=Hd (by
     unfold GA;rw[j.out,Nat.add_comm 1 k,get_some s _ I];constructor
     ·rintro⟨_,a,b,c⟩
      have:=Option.some.inj a;exact⟨by rw[this];rfl,b,c⟩
     ·rintro⟨a,b,c⟩
      exact⟨I,by rw[show s[k+1]=39 from UInt8.toNat_inj.1 (by show s[k+1].toNat=39;omega)],b,c⟩)
    clear l;go_wp2_with (go_at_call 211;refine(o _).mono ?_;rintro e P ⟨rfl,rfl⟩)
    ·refine bodyPost_ret (v:=.tuple #[.int .i64 0,FX 2 ((k:Int)+1)]) (by simp[results,Tryz.results190,go_sem,FX]) rfl ⟨(Below.refl _ _).alloc (AG _) _,.inr ⟨?_,_,_,by decide,rfl⟩⟩
     rw[p.out];have C:((k:Int)+1==1)=true:=by assumption
     rw[beq_iff_eq]at C;omega
    ·refine bodyPost_ret (v:=.tuple #[.int .i64 0,FX 5 (0)]) (by simp[results,Tryz.results190,go_sem,FX]) rfl ⟨(Below.refl _ _).alloc (AG _) _,.inr ⟨?_,_,_,by decide,rfl⟩⟩
     rw[p.out];omega
    ·refine bodyPost_ret (v:=.tuple #[.int .i64 ((k:Int)+1+1),FX 0 0]) (by simp[results,Tryz.results190,go_sem,FX]) rfl ⟨(Below.refl _ _).alloc (AG _) _,.inl ⟨?_,?_⟩⟩
     ·rw[p.out]
      have C:((k:Int)+1==1)=false:=by assumption
      rw[bN]at C;omega
     ·rw[j.out];congr 4
    ·refine bodyPost_ret (v:=.tuple #[.int .i64 0,FX 2 ((k:Int)+1)]) (by simp[results,Tryz.results190,go_sem,FX]) rfl ⟨(Below.refl _ _).alloc (AG _) _,.inr ⟨?_,_,_,by decide,rfl⟩⟩
     rw[p.out];omega
  ·have j:Hid (Bn (s.data.toList.drop 1)=k):=Hd (by
    have i:=t.2;rw[show s.data.toList.drop (1+k)=[] from List.drop_of_length_le (by simp;omega)]at i;simpa [Bn] using i)
   go_wp2;refine bodyPost_ret (v:=.tuple #[.int .i64 0,FX 4 ((s.size:Int))]) (by simp[results,Tryz.results190,go_sem,FX]) rfl ⟨(Below.refl _ _).alloc (AG _) _,.inr ⟨?_,_,_,by decide,rfl⟩⟩;unfold GA;rw[j.out];omega
def kL(s:ByteArray)(U:s.size<=4611686018427387904)(w:World):() 139 #[.string s] w fun e w'=>e=.returned (.bool (CD s.data.toList))/\Below w w w':=by
 by_cases h0:s.size=0
 ·obtain rfl:=Q6 h0
  go_enter Tryz.func139,Tryz.ntmps139
  go_wp2;go_ret;exact⟨rfl,Below.refl _ _⟩
 have t:0<s.size:=by omega
 have a2:s.toList.isEmpty=false:=by rw[PM,M5];exact decide_eq_false h0
 by_cases l:s[0]=39
 ·have T:((s[0].toNat:Int) != 39)=false:=by rw[l];rfl
  have C:s.data.toList.head?=some 39:=by rw[L2 s t,l]
  have P:=Hd (dD s U t w);have R:=Hd (fun i:GA s=>Q1 i C);have J:=Hd (fun i:¬GA s=>TJ i);clear C l h0;generalize j:CD s.data.toList=b at *;have a0:=Hd j;clear j;go_enter Tryz.func139,Tryz.ntmps139
  go_wp2_with fail
  refine P.mono ?_;rintro e w' ⟨j,⟨i,rfl⟩|⟨i,k,a3,I,rfl⟩⟩
  ·have o:=Hd j
   have p:=Hd (R i);clear j i;unfold FX;generalize Bn (s.data.toList.drop 1)=k at *;go_wp2;go_ret;refine⟨Ci ?_,o.alloc o.size _⟩;rw[p.out,Bool.eq_iff_iff,beq_iff_eq,beq_iff_eq];omega
  ·have o:=Hd j
   have p:=Hd (J i);have a1:(k==0)=false:=by simpa using I
   clear j i I;unfold FX;go_wp2;go_ret;exact⟨Ci p.symm,o.alloc o.size _⟩
 ·have T:((s[0].toNat:Int) != 39)=true:=by
   rw[bne_iff_ne];intro e;exact l (UInt8.toNat_inj.1 (by show s[0].toNat=39;omega))
  rw[TA (by rw[L2 s t];simpa using l)];clear l h0;go_enter Tryz.func139,Tryz.ntmps139
  go_wp2;go_ret;exact⟨rfl,Below.refl _ _⟩
structure Ru where
 left:Int
 v:Value
 right:List Int
structure Gm where
 T:List ByteArray
 N:List ByteArray
 s:Int
 R:List Ru
def J1(s:ByteArray):Bool:=CH s.data.toList
def KL(s:ByteArray):Bool:=CH s.data.toList||CD s.data.toList
def IJ(r:Ru):Bool:=decide (r.right.length<=8)
def Ea(a b:Ru):Bool:=a.left==b.left&&a.right==b.right
def Zc(l:List Int):Prop:=∀(i:Nat) (x y:Int),l[i]?=some x->l[i+1]?=some y->x<=y
def Un(l:List Ru):Prop:=∀(i j:Nat) (x r:Ru),j<i->l[j]?=some x->l[i]?=some r->Ea x r=false
namespace Gm
def term(g:Gm)(s:Int):Bool:=decide (1<=s)&&decide (s<=(g.T.length:Int))
def BJ(g:Gm)(s:Int):Bool:=decide ((g.T.length:Int)<s)&&decide (s<=(g.T.length:Int)+(g.N.length:Int))
def sym(g:Gm)(s:Int):Bool:=g.term s||g.BJ s
def B3(g:Gm):Bool:=(decide (g.T.length<=120)&&decide (g.N.length<=120))&&(decide (g.R.length<=300)&&g.R.all IJ)
def form(g:Gm):Bool:=g.T.all KL&&g.N.all J1
def once(g:Gm):Bool:=decide ((g.T++g.N).Nodup)
def Hi(g:Gm)(r:Ru):Bool:=g.BJ r.left&&r.right.all g.sym
def known(g:Gm):Bool:=g.BJ g.s&&g.R.all g.Hi
open Classical in
noncomputable def G8 (g:Gm):Bool:=decide (Un g.R)
def left(k:Int)(r:Ru):Bool:=r.left==k
def each(g:Gm):Bool:=(List.range g.N.length).all fun i=>g.R.any (left ((g.T.length:Int)+1+i))
noncomputable def check (g:Gm):Int:=if g.B3 then(if g.form then(if g.once then(if g.known then(if g.G8 then(if g.each then 0 else 9) else 8) else 1) else 8) else 10) else 7
def first(g:Gm)(i:Nat):Nat:=g.R.findIdx (left ((g.T.length:Int)+1+i))
def Oe(g:Gm):List Int:=(List.range g.N.length).map fun i=>(g.first i:Int)
open Classical in
noncomputable def ordered (g:Gm):Bool:=decide (Zc g.Oe)
def name(g:Gm)(s:Int):ByteArray:=if s=0 then⟨#[36]⟩ else if s<1\/(g.T.length:Int)+(g.N.length:Int)<s then⟨#[]⟩ else(g.T++g.N).getD (s-1).toNat ⟨#[]⟩
def small(g:Gm):Prop:=(∀s∈g.T,s.size<=1048576)/\(∀s∈g.N,s.size<=1048576)/\g.T.length<=1048576/\g.N.length<=1048576/\g.R.length<=1048576/\∀r∈g.R,r.right.length<=1048576
end Gm
def str(l:List UInt8):ByteArray:=⟨l.toArray⟩
def Z6(a:ByteArray):str a.data.toList=a:=by unfold str;simp
def Lp(l:List UInt8):(str l).data.toList=l:=by unfold str;simp
def JZ(l:List UInt8):(str l).size=l.length:=by unfold str;rfl
def Cd(s:ByteArray):Value:=.string s
def BP(n:Int):Value:=.int .i64 n
def C0(r:Ru):Value:=.agg #[r.left,r.v]
def Br(w:World)(b:Bool)(e:Ending)(w':World):Prop:=e=.returned (.bool b)/\Below w w w'
structure Bv{α:Type}(E:α->Value)(w:World)(v:Value)(l:List α):Prop where
 E4:∃A c,v=.slice A l.length c/\∀k x,l[k]?=some x->∃b off,A=some ⟨b,off,none⟩/\b<w.heap.size/\w.cell? ⟨b,off+k,none⟩=some (E x)
 short:l.length<=4611686018427387904
 room:∀A n c,v=.slice A n c->n<=c/\(A=none->c=0)
def Bv.later{o:Type}{E:o->Value}{w:World}{v:Value}{l:List o}(h:Bv E w v l)(i:Below w w w'):Bv E w' v l:=by obtain⟨⟨A,c,P,t⟩,J,I⟩:=h;refine⟨⟨A,c,P,fun k x R=>?_⟩,J,I⟩;obtain⟨b,off,p,j,C⟩:=t k x R;exact⟨b,off,p,AW j i.size,(i.cell (p:=(b,off+k)) j).trans C⟩
def Bv.nil{E:i->Value}(w:World)(A:Option Addr)(c:Nat)(h:A=none->c=0):Bv E w (.slice A 0 c) []:=⟨⟨A,c,rfl,fun k x h=>by simp at h⟩,by simp,fun _ _ _ e=>by cases e;exact⟨AZ _,h⟩⟩
def Bv.take{p:Type}{E:p->Value}{w:World}{n c:Nat}{l:List p}(h:Bv E w (.slice A n c) l)(k:Nat)(I:k<=n)(j:Nat)(C:k<=j/\(A=none->j=0)):Bv E w (.slice A k j) (l.take k):=by
 obtain⟨⟨P,c1,J,t⟩,R⟩:=h;cases J
 refine⟨⟨A,j,by rw[List.length_take,Nat.min_eq_left I],fun i x o=>?_⟩,by rw[List.length_take];omega,fun _ _ _ e=>by cases e;exact C⟩;rw[List.getElem?_take]at o;split at o
 ·exact t i x o
 ·cases o
theorem Bv.src{C:Type}{E:C->Value}{w:World}{v:Value}{l:List C}(h:Bv E w v l)(J:∀x,(E x).oneCell'=true):Bf w v l.length 1 (l.map E):=by
 obtain⟨⟨A,c,p,t⟩,hs,U⟩:=h;refine⟨fun u i=>?_,?_⟩
 ·obtain⟨x,_,rfl⟩:=List.mem_map.1 i
  exact J x
 ·cases A with
  | none=>
   left;have T:l=[]:=by
    cases l with
    | nil=>rfl
    | cons x r=>obtain⟨b,off,o,_⟩:=t 0 x rfl;cases o
   have h0:=(U _ _ _ p).2 rfl;subst T h0;exact⟨p,rfl,rfl⟩
  | some I=>
   right;refine⟨I,c,p,by simp,fun j u i=>?_⟩;rw[pG]at i;obtain⟨x,hx,rfl⟩:=Option.map_eq_some_iff.1 i;obtain⟨b,off,o,_,R⟩:=t j x hx;cases o
   have P:((b,off):Addr).add j=(b,off+j):=by
    unfold Addr.add;split
    ·rename_i h0;simp_all
    ·rfl
   rw[P];exact R
structure Ff(w:World)(v:Value)(l:List Ru):Prop where
 E4:∃A c,v=.slice A l.length c/\∀k r,l[k]?=some r->∃b off,A=some ⟨b,off,none⟩/\b<w.heap.size/\w.cell? ⟨b,off+k*2,none⟩=some (.int .i64 r.left)/\w.cell? ⟨b,off+k*2+1,none⟩=some r.v/\Bv BP w r.v r.right
 short:l.length<=4611686018427387904
 room:∀A n c,v=.slice A n c->n<=c/\(A=none->c=0)
variable{l:List Ru}
def Ff.later{w:World}{v:Value}(h:Ff w v l)(i:Below w w w'):Ff w' v l:=by obtain⟨⟨A,c,T,I⟩,R,P⟩:=h;refine⟨⟨A,c,T,fun k r J=>?_⟩,R,P⟩;obtain⟨b,off,C,j,o,p,t⟩:=I k r J;exact⟨b,off,C,AW j i.size,(i.cell (p:=(b,off+k*2)) j).trans o,(i.cell (p:=(b,off+k*2+1)) j).trans p,t.later i⟩
def Ff.take{w:World}{n c:Nat}(h:Ff w (.slice A n c) l)(k:Nat)(C:k<=n)(j:Nat)(t:k<=j/\(A=none->j=0)):Ff w (.slice A k j) (l.take k):=by
 obtain⟨⟨J,c1,I,p⟩,P⟩:=h;cases I
 refine⟨⟨A,j,by rw[List.length_take,Nat.min_eq_left C],fun i x o=>?_⟩,by rw[List.length_take];omega,fun _ _ _ e=>by cases e;exact t⟩;rw[List.getElem?_take]at o;split at o
 ·exact p i x o
 ·cases o
def Ff.mem{w:World}{v:Value}(h:Ff w v l){r:Ru}(t:r∈l):Bv BP w r.v r.right:=by obtain⟨⟨A,c,I,j⟩,C⟩:=h;obtain⟨k,p,o⟩:=List.mem_iff_getElem.1 t;exact(j k r (by rw[<-o];exact eG p)).elim fun _ ⟨_,_,_,_,_,i⟩=>i
structure Dc(w:World)(v:Value)(g:Gm):Prop where
 E4:∃vT vN vR,v=.agg #[vT,vN,vR,g.s]/\Bv Cd w vT g.T/\Bv Cd w vN g.N/\Ff w vR g.R
 small:g.small
def Dc.later{w:World}{v:Value}{g:Gm}(h:Dc w v g)(i:Below w w w'):Dc w' v g:=by obtain⟨⟨J,C,I,t,j,l,o⟩,p⟩:=h;exact⟨⟨J,C,I,t,j.later i,l.later i,o.later i⟩,p⟩
structure Rb(w:World)(v:Value)(r:Ru):Prop where
 E4:v=C0 r
 right:Bv BP w r.v r.right
def GV{i:Type}(p:i->Bool)(l:List i):Int:=if l.any p then(l.findIdx p:Nat) else -1
def Pm{p:i->Bool}{l:List i}{k:Nat}{x:i}(J:l[k]?=some x)(t:p x=true)(C:∀j y,j<k->l[j]?=some y->p y=false):GV p l=k:=by obtain⟨o,rfl⟩:=sG.1 J;unfold GV;rw[if_pos (List.any_eq_true.2 ⟨_,List.getElem_mem o,t⟩)];congr 1;rw[List.findIdx_eq o];exact⟨t,fun j I=>C j _ I (eG (by omega))⟩
def OV{t:Type}{p:t->Bool}{l:List t}(C:∀j y,j<l.length->l[j]?=some y->p y=false):GV p l = -1:=by unfold GV;rw[if_neg];rw[List.any_eq_true];rintro⟨x,J,o⟩;obtain⟨k,i,I⟩:=List.mem_iff_getElem.1 J;rw[C k x i (by rw[<-I];exact eG i)]at o;cases o
theorem OQ(p:i->Bool)(l:List i):decide (0<=GV p l)=l.any p:=by
 unfold GV;cases h:l.any p with
 | true=>rw[if_pos rfl,decide_eq_true_eq];omega
 | false=>rw[if_neg (by simp),decide_eq_false_iff_not];omega
def AH(w:World)(o:Obj):Below w w (w.alloc o):=(Below.refl _ w).alloc (AG _) o
def Eu{w:World}{o:Obj}(h:Below (w.alloc o).heap.size (w.alloc o) w'):Below w w w':=
 ((Below.refl _ w).alloc (AG _) o).trans (h.mono (by simp))
def OS(p:i->Bool)(l:List i):(!l.any fun x=>!p x)=l.all p:=by rw[List.all_eq_not_any_not]
end Go.Proofs.YthaacmablcpdfaaGreatDoor
