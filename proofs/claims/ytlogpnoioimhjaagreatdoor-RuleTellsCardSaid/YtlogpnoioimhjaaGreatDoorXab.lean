/- Bytes and names. The program's Name. What is quoted. Grammars. Lists and grammars as they lie. -/
import Derived.Test.YtlogpnoioimhjaaGreatDoorRows
import Derived.Test.YtlogpnoioimhjaaGreatDoorXaa
import Derived.WalkSpells
import Derived.WalkLawsBesides
import Derived.BigQuiet
import Derived.Deep.QuietTactic
import Derived.Laws.RangeString
import Derived.Laws.RangeAny
import Derived.Test.YtlogpnoioimhjaaGreatDoorXnm
set_option linter.all false
set_option maxRecDepth 100000
set_option maxHeartbeats 16000000
namespace Go.Proofs.YtlogpnoioimhjaaGreatDoor
open Go.RowKit
variable{w':World}{i:Type}{A:Option Addr}
def CI{a b:Bool}(h:a=b):Ending.returned (.bool a)=.returned (.bool b):=by rw[h]
def BH(c:UInt8):Nat:=
 if c=0 then 0 else if c=32\/c=9 then 1 else if c=10 then 2
 else if c=38\/c=124\/c=59\/c=60\/c=62\/c=40\/c=41 then 5
 else if c=39\/c=34\/c=92\/c=96 then 6
 else if c=36 then 7
 else if 48<=c/\c<=57 then 3
 else if c=95\/(97<=c|||32/\c|||32<=122) then 4
 else 8
def Pr(n o:Int):Nat:=if 48<=n/\n<=57 then 3 else if n=95\/(97<=o/\o<=122) then 4 else 8
def Ns(n o:Int):Nat:=
 if n=0 then 0 else if n=32\/n=9 then 1 else if n=10 then 2
 else if n=38\/n=124\/n=59\/n=60\/n=62\/n=40\/n=41 then 5
 else if n=39\/n=34\/n=92\/n=96 then 6
 else if n=36 then 7 else Pr n o
def Ln:List UInt8:=(List.range 256).map UInt8.ofNat
def LG(c:UInt8):c∈Ln:=List.mem_map.2 ⟨c.toNat,List.mem_range.2 c.toNat_lt,by simp⟩
def Vq:Ln.all (fun c=>Ns c.toNat (bits .or .u8 c.toNat 32)==BH c)=true:=by kernel_rfl
def iB(c:UInt8):Ns c.toNat (bits .or .u8 c.toNat 32)=BH c:=by have:=List.all_eq_true.1 Vq c (LG c);exact beq_iff_eq.1 this
def XO(c:UInt8)(w:World):() 72 #[.int .u8 c.toNat] w fun e w'=>e=.returned (.int .i64 (Pr c.toNat (bits .or .u8 c.toNat 32)))/\w'=w:=by
 go_enter Tryz.func72,Tryz.ntmps72
 generalize (c.toNat:Int)=n;go_wp2;all_goals go_ret
 all_goals refine⟨?_,rfl⟩
 all_goals refine congrArg (fun k:Int=>Ending.returned (Value.int .i64 k)) ?_
 all_goals (
  unfold Pr;try simp only[beq_iff_eq,bN]at *
  repeat' split
  all_goals first|rfl|(exfalso;omega))
def NI(c:UInt8)(w:World):() 48 #[.int .u8 c.toNat] w fun e w'=>e=.returned (.int .i64 (BH c))/\w'=w:=by
 rw[<-iB];have i:=Hd (XO c);go_enter Tryz.func48,Tryz.ntmps48
 go_wp2_with (go_at_call 72;refine(i _).mono ?_;rintro e w' ⟨rfl,rfl⟩)
 all_goals go_ret
 all_goals refine⟨?_,rfl⟩
 all_goals refine congrArg (fun k:Int=>Ending.returned (Value.int .i64 k)) ?_
 all_goals clear i
 all_goals generalize (c.toNat:Int)=n at *
 all_goals (
  unfold Ns;try simp only[beq_iff_eq,bN]at *
  repeat' split
  all_goals first|rfl|(exfalso;omega))
def I6(n:Int):Nat:=
 if n=0 then 0 else if n=32\/n=9 then 1 else if n=10 then 2
 else if 48<=n/\n<=57 then 3
 else if (97<=n/\n<=122)\/(65<=n/\n<=90)\/n=95 then 4
 else if n=38\/n=124\/n=59\/n=60\/n=62\/n=40\/n=41 then 5
 else if n=39\/n=34\/n=92\/n=96 then 6
 else if n=36 then 7 else 8
def bQ:Ln.all (fun c=>I6 c.toNat==BH c)=true:=by kernel_rfl
def Wo(c:UInt8):I6 c.toNat=BH c:=by have:=List.all_eq_true.1 bQ c (LG c);exact beq_iff_eq.1 this
def FW{a b:Nat}(h:a=b):Ending.returned (.int .i64 (a:Int))=.returned (.int .i64 (b:Int)):=by rw[h]
def Xe(c:UInt8)(w:World):() 78 #[.int .u8 c.toNat] w fun e w'=>e=.returned (.int .i64 (BH c))/\w=w':=by
 rw[<-Wo];generalize (c.toNat:Int)=n;have a9:(n<48)\/(48<=n/\n<=57)\/(57<n/\n<65)\/(65<=n/\n<=90)\/(90<n/\n<97)\/(97<=n/\n<=122)\/(122<n):=by omega
 rcases a9 with h|h|h|h|h|h|h
 ·have i:n<48:=by omega
  have j:n<65:=by omega
  have l:n<97:=by omega
  have a7:(n==95)=false:=bN.2 (by omega);have P:(n==124)=false:=bN.2 (by omega);have a3:(n==59)=false:=bN.2 (by omega);have a4:(n==60)=false:=bN.2 (by omega);have a5:(n==62)=false:=bN.2 (by omega);have a6:(n==92)=false:=bN.2 (by omega);have a8:(n==96)=false:=bN.2 (by omega);clear h;go_enter Tryz.func78,Tryz.ntmps78
  go_wp2;all_goals go_ret
  all_goals refine⟨FW ?_,rfl⟩
  all_goals first
   | rfl
   | decide
   | (
    unfold I6;try simp only[beq_iff_eq,bN]at *
    repeat' split
    all_goals first|rfl|(exfalso;omega))
 ·have i:48<=n:=by omega
  have j:n<=57:=by omega
  have o:(n==0)=false:=bN.2 (by omega);have t:(n==32)=false:=bN.2 (by omega);have C:(n==9)=false:=bN.2 (by omega);have p:(n==10)=false:=bN.2 (by omega);clear h;go_enter Tryz.func78,Tryz.ntmps78
  go_wp2;all_goals go_ret
  all_goals refine⟨FW ?_,rfl⟩
  all_goals first
   | rfl
   | decide
   | (
    unfold I6;try simp only[bN]at *
    repeat' split
    all_goals first|rfl|(exfalso;omega))
 ·have i:48<=n:=by omega
  have j:57<n:=by omega
  have l:n<65:=by omega
  have I:n<97:=by omega
  have o:(n==0)=false:=bN.2 (by omega);have t:(n==32)=false:=bN.2 (by omega);have C:(n==9)=false:=bN.2 (by omega);have p:(n==10)=false:=bN.2 (by omega);have a7:(n==95)=false:=bN.2 (by omega);have U:(n==38)=false:=bN.2 (by omega);have P:(n==124)=false:=bN.2 (by omega);have a1:(n==40)=false:=bN.2 (by omega);have a2:(n==41)=false:=bN.2 (by omega);have a0:(n==39)=false:=bN.2 (by omega);have R:(n==34)=false:=bN.2 (by omega)
  have a6:(n==92)=false:=bN.2 (by omega);have a8:(n==96)=false:=bN.2 (by omega);have T:(n==36)=false:=bN.2 (by omega);clear h;go_enter Tryz.func78,Tryz.ntmps78
  go_wp2;all_goals go_ret
  all_goals refine⟨FW ?_,rfl⟩
  all_goals first
   | rfl
   | decide
   | (
    unfold I6;try simp only[beq_iff_eq,bN]at *
    repeat' split
    all_goals first|rfl|(exfalso;omega))
 ·have i:48<=n:=by omega
  have j:57<n:=by omega
  have l:65<=n:=by omega
  have I:n<=90:=by omega
  have J:n<97:=by omega
  have o:(n==0)=false:=bN.2 (by omega);have t:(n==32)=false:=bN.2 (by omega);have C:(n==9)=false:=bN.2 (by omega);have p:(n==10)=false:=bN.2 (by omega);clear h;go_enter Tryz.func78,Tryz.ntmps78
  go_wp2;all_goals go_ret
  all_goals refine⟨FW ?_,rfl⟩
  all_goals first
   | rfl
   | decide
   | (
    unfold I6;try simp only[bN]at *
    repeat' split
    all_goals first|rfl|(exfalso;omega))
 ·have i:48<=n:=by omega
  have j:57<n:=by omega
  have l:65<=n:=by omega
  have I:90<n:=by omega
  have J:n<97:=by omega
  have o:(n==0)=false:=bN.2 (by omega);have t:(n==32)=false:=bN.2 (by omega);have C:(n==9)=false:=bN.2 (by omega);have p:(n==10)=false:=bN.2 (by omega);have U:(n==38)=false:=bN.2 (by omega);have P:(n==124)=false:=bN.2 (by omega);have a3:(n==59)=false:=bN.2 (by omega);have a4:(n==60)=false:=bN.2 (by omega);have a5:(n==62)=false:=bN.2 (by omega);have a1:(n==40)=false:=bN.2 (by omega);have a2:(n==41)=false:=bN.2 (by omega)
  have a0:(n==39)=false:=bN.2 (by omega);have R:(n==34)=false:=bN.2 (by omega);have T:(n==36)=false:=bN.2 (by omega);clear h;go_enter Tryz.func78,Tryz.ntmps78
  go_wp2;all_goals go_ret
  all_goals refine⟨FW ?_,rfl⟩
  all_goals first
   | rfl
   | decide
   | (
    unfold I6;try simp only[beq_iff_eq,bN]at *
    repeat' split
    all_goals first|rfl|(exfalso;omega))
 ·have i:48<=n:=by omega
  have j:57<n:=by omega
  have l:97<=n:=by omega
  have I:n<=122:=by omega
  have o:(n==0)=false:=bN.2 (by omega);have t:(n==32)=false:=bN.2 (by omega);have C:(n==9)=false:=bN.2 (by omega);have p:(n==10)=false:=bN.2 (by omega);clear h;go_enter Tryz.func78,Tryz.ntmps78
  go_wp2;all_goals go_ret
  all_goals refine⟨FW ?_,rfl⟩
  all_goals first
   | rfl
   | decide
   | (
    unfold I6;try simp only[bN]at *
    repeat' split
    all_goals first|rfl|(exfalso;omega))
 ·have i:48<=n:=by omega
  have j:57<n:=by omega
  have l:65<=n:=by omega
  have I:90<n:=by omega
  have J:97<=n:=by omega
  have q5:122<n:=by omega
  have o:(n==0)=false:=bN.2 (by omega);have t:(n==32)=false:=bN.2 (by omega);have C:(n==9)=false:=bN.2 (by omega);have p:(n==10)=false:=bN.2 (by omega);have a7:(n==95)=false:=bN.2 (by omega);have U:(n==38)=false:=bN.2 (by omega);have a3:(n==59)=false:=bN.2 (by omega);have a4:(n==60)=false:=bN.2 (by omega);have a5:(n==62)=false:=bN.2 (by omega);have a1:(n==40)=false:=bN.2 (by omega);have a2:(n==41)=false:=bN.2 (by omega)
  have a0:(n==39)=false:=bN.2 (by omega);have R:(n==34)=false:=bN.2 (by omega);have a6:(n==92)=false:=bN.2 (by omega);have a8:(n==96)=false:=bN.2 (by omega);have T:(n==36)=false:=bN.2 (by omega);clear h;go_enter Tryz.func78,Tryz.ntmps78
  go_wp2;all_goals go_ret
  all_goals refine⟨FW ?_,rfl⟩
  all_goals first
   | rfl
   | decide
   | (
    unfold I6;try simp only[bN]at *
    repeat' split
    all_goals first|rfl|(exfalso;omega))
def D3:List UInt8->Bool
 | []=>false
 | c::r=>BH c==4&&r.all fun d=>BH d==4||BH d==3
def Iy(s:ByteArray)(k:Nat)(h:k<s.size):s.data.toList.drop k=s[k]::s.data.toList.drop (k+1):=by rw[List.drop_eq_getElem_cons (by simpa using h)];rfl
def LU(s:ByteArray):s.data.toList.drop s.size=[]:=List.drop_of_length_le (by simp)
theorem Nt(s:ByteArray):s.data.toList.isEmpty=decide (s.size=0):=by
 have h:s.data.toList.length=s.size:=by simp
 cases i:s.data.toList with
 | nil=>rw[i]at h;simp at h;simp[<-h]
 | cons a l=>rw[i]at h;simp at h;simp[<-h]
def size_pos(s:ByteArray):decide (0<s.size)=(!decide (s.size=0)&&true):=by rw[Bool.eq_iff_iff,Bool.and_true,Bool.not_eq_true',decide_eq_true_eq,decide_eq_false_iff_not];omega
def KU(l:List UInt8):Bool:=l.all fun d=>BH d==4||BH d==3
def Dt(k:Nat)(l:List UInt8):Bool:=if k=0 then(match l with|[]=>true|c::r=>BH c==4&&KU r) else KU l
theorem QF(s:ByteArray):D3 s.data.toList=(!decide (s.size=0)&&Dt 0 s.data.toList):=by
 rw[<-Nt];cases s.data.toList with
 | nil=>rfl
 | cons c r=>simp[D3,Dt,KU]
def SZ(s:ByteArray)(hs:s.size<=9223372036854775807)(w:World):() 56 #[.string s] w fun e w'=>e=.returned (.bool (D3 s.data.toList))/\w=w':=by
 have J:=Hd (QF s);go_enter Tryz.func56,Tryz.ntmps56
 go_wp2
 go_loop [3,4] (fun i _=>∃k:Nat,k<=s.size/\i=.int .i64 k/\Hid (Dt 0 s.data.toList=Dt k (s.data.toList.drop k))) (fun i _=>s.size-(intOf i).toNat)
 case atStart=>exact⟨0,AX _,rfl,Hd rfl⟩
 case round=>
  obtain⟨k,hk,rfl,I⟩:=hrel;by_cases U:k<s.size
  ·have P:=Hd (Iy s k U)
   have o:=Hd (Xe s[k] w);have hz:s.size≠0:=by omega
   by_cases t:BH s[k]=4\/(BH s[k]=3/\k≠0)
   ·have C:Hid (Dt 0 s.data.toList=Dt (k+1) (s.data.toList.drop (k+1))):=Hd (by
     rw[I.out,P.out];unfold Dt;rw[if_neg (Nat.succ_ne_zero k)];by_cases j:k=0
     ·rw[if_pos j]
      have p:BH s[k]=4:=by omega
      simp[p]
     ·rw[if_neg j]
      rcases t with h|h
      ·simp[KU,h]
      ·simp[KU,h.1])
    rcases t with p|⟨l,j⟩
    ·rw[p]at o
     clear p;go_wp2_with (go_at_call 78;refine o.mono ?_;rintro e w' ⟨rfl,rfl⟩)
     go_round
     case rel=>exact⟨k+1,by omega,by go_num,C⟩
     case measure=>simp[intOf];omega
    ·rw[l]at o
     have a1:((k:Int)==0)=false:=by simp;omega
     clear l;go_wp2_with (go_at_call 78;refine o.mono ?_;rintro e w' ⟨rfl,rfl⟩)
     go_round
     case rel=>exact⟨k+1,by omega,by go_num,C⟩
     case measure=>simp[intOf];omega
   ·have C:Hid (Dt 0 s.data.toList=false):=Hd (by
     rw[I.out,P.out];unfold Dt;have p:BH s[k]≠4:=fun h=>t (.inl h)
     by_cases j:k=0
     ·rw[if_pos j]
      simp[p]
     ·rw[if_neg j]
      have l:BH s[k]≠3:=fun h=>t (.inr ⟨h,j⟩)
      simp[KU,p,l])
    have a0:((BH s[k]:Int) != 4)=true:=by
     have:BH s[k]≠4:=fun h=>t (.inl h)
     simp;omega
    by_cases l:BH s[k]=3
    ·have j:k=0:=by omega
     subst j;rw[l]at o;clear l t a0;go_wp2_with (go_at_call 78;refine o.mono ?_;rintro e w' ⟨rfl,rfl⟩)
     go_ret;exact⟨CI (by rw[J.out,C.out,Bool.and_false]),rfl⟩
    ·have a2:((BH s[k]:Int) != 3)=true:=by simp;omega
     clear t;generalize BH s[k]=q at *;clear l;go_wp2_with (go_at_call 78;refine o.mono ?_;rintro e w' ⟨rfl,rfl⟩)
     go_ret;exact⟨CI (by rw[J.out,C.out,Bool.and_false]),rfl⟩
  ·obtain rfl:k=s.size:=by omega
   have R:Dt 0 s.data.toList=true:=by rw[I.out,LU];unfold Dt;split<;>rfl
   have T:=Hd R;clear R I;go_wp2;go_ret;refine⟨CI ?_,rfl⟩;rw[J.out,T.out];exact size_pos s
def E8(c:UInt8):Bool:=33<=c.toNat&&c.toNat<=126&&c.toNat != 39
def O5(n:Int):Bool:=decide (33<=n)&&decide (n<=126)&&!(n==39)
def kP:Ln.all (fun c=>O5 c.toNat==E8 c)=true:=by kernel_rfl
def gM(c:UInt8):O5 c.toNat=E8 c:=beq_iff_eq.1 (List.all_eq_true.1 kP c (LG c))
def jB(c:UInt8)(w:World):() 166 #[.int .u8 c.toNat] w fun e w'=>e=.returned (.bool (E8 c))/\w=w':=by
 rw[<-gM];go_enter Tryz.func166,Tryz.ntmps166
 generalize (c.toNat:Int)=n;unfold O5;go_wp2;all_goals go_ret
 all_goals refine⟨CI ?_,rfl⟩
 all_goals (rw[Bool.eq_iff_iff];simp[*]<;>omega)
def Gh(l:List UInt8):Bool:=l.all fun c=>decide (c.toNat<128)
def VI(s:ByteArray)(J:s.size<=9223372036854775807)(w:World):() 45 #[.string s] w fun e w'=>e=.returned (.bool (Gh s.data.toList))/\w=w':=by
 go_enter Tryz.func45,Tryz.ntmps45
 go_wp2
 go_loop [6] (fun i=>∃k:Nat,k<=s.size/\i=.int .i64 k/\Hid (Gh s.data.toList=Gh (s.data.toList.drop k))) (fun i=>s.size-(intOf i).toNat)
 case atStart=>exact⟨0,AX _,rfl,Hd rfl⟩
 case round=>
  obtain⟨k,I,rfl,o⟩:=hrel;by_cases C:k<s.size
  ·have p:=Hd (Iy s k C)
   have l:Hid (Gh s.data.toList=(decide (s[k].toNat<128)&&Gh (s.data.toList.drop (k+1)))):=Hd (by rw[o.out,p.out];rfl);by_cases h:s[k].toNat<128
   ·have j:Hid (Gh s.data.toList=Gh (s.data.toList.drop (k+1))):=Hd (by rw[l.out,decide_eq_true h,Bool.true_and])
    have t:(s[k].toNat:Int)<128:=by omega
    clear h;go_wp2
    go_round
    case rel=>exact⟨k+1,by omega,by go_num,j⟩
    case measure=>simp[intOf];omega
   ·have j:Hid (Gh s.data.toList=false):=Hd (by rw[l.out,decide_eq_false h,Bool.false_and])
    have t:128<=(s[k].toNat:Int):=by omega
    clear h;go_wp2;go_ret;exact⟨CI j.symm,rfl⟩
  ·obtain rfl:k=s.size:=by omega
   have j:Hid (Gh s.data.toList=true):=Hd (by rw[o.out,LU];rfl);go_wp2;go_ret;exact⟨CI j.symm,rfl⟩
def nameAt(i:Int)(q:Int):Bool:=(q==4)||((q==3)&&decide (0<i))
def kE(i:Int)(c:UInt8)(w:World):() 47 #[i,.int .u8 c.toNat] w fun e w'=>e=.returned (.bool (nameAt i (BH c)))/\w=w':=by
 have j:=Hd (NI c w);generalize (BH c:Int)=q at *;unfold nameAt;go_enter Tryz.func47,Tryz.ntmps47
 go_wp2_with (go_at_call 48;refine j.mono ?_;rintro e w' ⟨rfl,rfl⟩)
 all_goals go_ret
 all_goals exact⟨CI (by simp[*]),rfl⟩
def eU(k:Nat)(c:UInt8):nameAt k (BH c)=(BH c==4||(BH c==3&&k != 0)):=by
 have i:((BH c:Int)==4)=(BH c==4):=by rw[Bool.eq_iff_iff,beq_iff_eq,beq_iff_eq];omega
 have j:((BH c:Int)==3)=(BH c==3):=by rw[Bool.eq_iff_iff,beq_iff_eq,beq_iff_eq];omega
 have l:decide ((0:Int)<(k:Int))=(k != 0):=by rw[Bool.eq_iff_iff,decide_eq_true_eq,bne_iff_ne];omega
 unfold nameAt;rw[i,j,l]
def Vz(s:ByteArray)(k:Nat)(h:k<s.size)(l:Dt 0 s.data.toList=Dt k (s.data.toList.drop k)):Dt 0 s.data.toList=(nameAt k (BH s[k])&&Dt (k+1) (s.data.toList.drop (k+1))):=by
 rw[l,Iy s k h,eU];unfold Dt;rw[if_neg (Nat.succ_ne_zero k)];by_cases i:k=0
 ·rw[if_pos i];simp[i]
 ·have j:(k != 0)=true:=by simpa using i
  rw[if_neg i,j,Bool.and_true];rfl
def Ug(w:World)(s:ByteArray)(k:Nat):Below w w (w.iter s k):=(Below.refl _ _).alloc (AF _) _
def gI(s:ByteArray)(U:s.size<=9223372036854775807)(ha:Gh s.data.toList=true)(w:World):() 46 #[.string s,.func (.func 47) #[] #[]] w fun e w'=>e=.returned (.bool (D3 s.data.toList))/\Below w w w':=by
 have J:Hid (∀k,∀h:k<s.size,s[k].toNat<128):=Hd (fun k h=>by
  have P:=List.all_eq_true.1 ha s[k] (by
   have:s.data.toList[k]?=some s[k]:=by rw[Array.getElem?_toList];exact Array.getElem?_eq_getElem h
   exact mG this)
  exact of_decide_eq_true P)
 have I:=Hd (QF s);clear ha;go_enter Tryz.func46,Tryz.ntmps46
 go_wp2;go_loopw [] (fun wr=>∃k:Nat,k<=s.size/\wr=w.iter s k/\Hid (Dt 0 s.data.toList=Dt k (s.data.toList.drop k))) (fun wr=>s.size-wr.iterPos w.heap.size)
 case atStart=>exact⟨0,AX _,rfl,Hd rfl⟩
 case round=>
  obtain⟨k,T,rfl,j⟩:=hrel;by_cases C:k<s.size
  ·have R:∀i,(Instr.next (w,0) true i).run Tryz.prog (w.iter s k)=_:=fun i=>run_next_ascii w s k i C (J k C)
   have p:=Hd (Vz s k C j);have o:=Hd (kE k s[k] (w.iter s (k+1)));cases t:nameAt k (BH s[k]) with
   | true=>
    rw[t]at o p;have l:Hid (Dt 0 s.data.toList=Dt (k+1) (s.data.toList.drop (k+1))):=Hd (by rw[p.out,Bool.true_and]);clear t j;go_wp2_with (go_at_call 47;refine o.mono ?_;rintro e w' ⟨rfl,rfl⟩)
    go_roundw
    case rel=>exact⟨k+1,by omega,rfl,l⟩
    case measure=>simp;omega
   | false=>
    rw[t]at o p;have l:Hid (Dt 0 s.data.toList=false):=Hd (by rw[p.out,Bool.false_and]);clear t j;go_wp2_with (go_at_call 47;refine o.mono ?_;rintro e w' ⟨rfl,rfl⟩)
    go_ret;exact⟨CI (by rw[I.out,l.out,Bool.and_false]),Ug w s _⟩
  ·have R:∀i,(Instr.next (w,0) true i).run Tryz.prog (w.iter s k)=_:=fun i=>run_next_end w s k i C
   obtain rfl:k=s.size:=by omega
   have l:Hid (Dt 0 s.data.toList=true):=Hd (by rw[j.out,LU];unfold Dt;split<;>rfl)
   clear j;go_wp2;go_ret;refine⟨CI ?_,Ug w s _⟩;rw[I.out,l.out,Bool.and_true];rw[show s.toList=s.data.toList from ByteArray.toList_eq s,Nt]
def Y4{c:UInt8}(h:¬c.toNat<128):BH c=8:=by have h0:=List.all_eq_true.1 (show Ln.all (fun c=>decide (c.toNat<128)||(BH c==8))=true by kernel_rfl) c (LG c);rw[decide_eq_false h,Bool.false_or]at h0;exact beq_iff_eq.1 h0
theorem Zl{l:List UInt8}(h:D3 l=true):Gh l=true:=by
 cases l with
 | nil=>cases h
 | cons c r=>
  simp only[D3,Bool.and_eq_true,beq_iff_eq,List.all_eq_true,Bool.or_eq_true]at h;unfold Gh;rw[List.all_eq_true];intro d i;rw[decide_eq_true_eq];by_cases j:d.toNat<128
  ·exact j
  ·have o:=Y4 j
   rcases List.mem_cons.1 i with rfl|i
   ·omega
   ·rcases h.2 d i with e|e<;>omega
theorem OV(s:ByteArray)(o:s.size<=9223372036854775807)(w:World):() 27 #[.string s] w fun e w'=>e=.returned (.bool (D3 s.data.toList))/\Below w w w':=by
 have i:=Hd (VI s o w);cases ha:Gh s.data.toList with
 | true=>
  rw[ha]at i;have t:=Hd (gI s o ha w);clear ha;go_enter Tryz.func27,Tryz.ntmps27
  go_wp2_with (go_at_call 45;refine i.mono ?_;rintro e w' ⟨rfl,rfl⟩)
  refine t.mono ?_;rintro e w' ⟨rfl,j⟩;have p:=Hd j;clear j;go_wp2;go_ret;exact⟨rfl,p⟩
 | false=>
  rw[ha]at i;have l:D3 s.data.toList=false:=by
   cases h:D3 s.data.toList with
   | false=>rfl
   | true=>rw[Zl h]at ha;cases ha
  rw[l];clear ha l;go_enter Tryz.func27,Tryz.ntmps27
  go_wp2_with (go_at_call 45;refine i.mono ?_;rintro e w' ⟨rfl,rfl⟩)
  go_ret;exact⟨rfl,Below.refl _ _⟩
def CN(l:List UInt8):Bool:=D3 l&&decide (l.length<=24)
def Io(t:ByteArray):t.data.toList.length=t.size:=by simp
def Rs(s:ByteArray)(p:s.size<=9223372036854775807)(w:World):() 138 #[.string s] w fun e w'=>e=.returned (.bool (CN s.data.toList))/\Below w w w':=by
 have l:=Hd (OV s p w);unfold CN;rw[Io];generalize D3 s.data.toList=b at *;by_cases h:s.size<=24
 ·rw[decide_eq_true h,Bool.and_true]
  have o:(s.size:Int)<=24:=by omega
  clear h;go_enter Tryz.func138,Tryz.ntmps138
  go_wp2_with fail
  refine l.mono ?_;rintro e w' ⟨rfl,i⟩;have j:=Hd i;clear i;go_wp2;go_ret;exact⟨rfl,j⟩
 ·rw[decide_eq_false h,Bool.and_false]
  have o:¬(s.size:Int)<=24:=by omega
  clear h;go_enter Tryz.func138,Tryz.ntmps138
  go_wp2;go_ret;exact⟨rfl,Below.refl _ _⟩
def Bq(l:List UInt8):Nat:=(l.takeWhile E8).length
def T8(l:List UInt8):Bq l<=l.length:=(List.takeWhile_sublist E8).length_le
def Si(c:UInt8)(l:List UInt8):Bq (c::l)=if E8 c then Bq l+1 else 0:=by unfold Bq;rw[List.takeWhile_cons];split<;>simp
def Tc(s:ByteArray)(p k:Nat):Prop:=p+k<=s.size/\Bq (s.data.toList.drop p)=k+Bq (s.data.toList.drop (p+k))
def NK(s:ByteArray)(R:s.size<=4611686018427387904)(p:Nat)(P:p<=s.size)(w:World):() 112 #[.string s,p,.func (.func 166) #[] #[]] w fun e w'=>e=.returned (.int .i64 (Bq (s.data.toList.drop p)))/\w=w':=by
 go_enter Tryz.func112,Tryz.ntmps112
 go_wp2
 go_loop [7] (fun n=>∃k:Nat,p+k<=s.size/\n=.int .i64 k/\Hid (Tc s p k)) (fun n=>s.size-(intOf n).toNat)
 case atStart=>exact⟨0,by omega,rfl,Hd ⟨by omega,by simp⟩⟩
 case round=>
  obtain⟨k,J,rfl,t⟩:=hrel;by_cases I:p+k<s.size
  ·have C:=Hd (Iy s (p+k) I)
   have o:=Hd (jB s[p+k] w);cases j:E8 s[p+k] with
   | true=>
    rw[j]at o;have l:Hid (Tc s p (k+1)):=Hd ⟨by omega,by have i:=t.2;rw[C.out,Si,if_pos j]at i;rw[i];show k+(Bq (s.data.toList.drop (p+k+1))+1)=k+1+Bq (s.data.toList.drop (p+(k+1)));rw[Nat.add_assoc p k 1];omega⟩
    clear j;go_wp2_with (go_at_call 166;refine o.mono ?_;rintro e w' ⟨rfl,rfl⟩)
    go_round
    case rel=>exact⟨k+1,by omega,by go_num,l⟩
    case measure=>simp[intOf];omega
   | false=>
    rw[j]at o;have l:Hid (Bq (s.data.toList.drop p)=k):=Hd (by have i:=t.2;rw[C.out,Si,j]at i;simpa using i)
    clear j;go_wp2_with (go_at_call 166;refine o.mono ?_;rintro e w' ⟨rfl,rfl⟩)
    go_ret;exact⟨FW l.symm,rfl⟩
  ·have l:Hid (Bq (s.data.toList.drop p)=k):=Hd (by
    have i:=t.2;rw[show s.data.toList.drop (p+k)=[] from List.drop_of_length_le (by simp;omega)]at i;simpa [Bq] using i)
   go_wp2;go_ret;exact⟨FW l.symm,rfl⟩
def Mw(k:Int)(i:k≠0)(p:Int)(w:World):() 64 #[k,p] w fun e w'=>e=.returned (.iface 174 (w,0))/\Below w w w':=by
 have h0:(k==0)=false:=by simpa using i
 clear i;go_enter Tryz.func64,Tryz.ntmps64
 go_wp2;go_ret;exact⟨rfl,(Below.refl _ _).alloc (AF _) _⟩
def KZ(s:ByteArray):Prop:=1+Bq (s.data.toList.drop 1)<s.size/\s.data.toList[1+Bq (s.data.toList.drop 1)]?=some 39/\Bq (s.data.toList.drop 1)≠0/\1+Bq (s.data.toList.drop 1)<24
def get_some(s:ByteArray)(k:Nat)(h:k<s.size):s.data.toList[k]?=some s[k]:=by rw[Array.getElem?_toList];exact Array.getElem?_eq_getElem h
def V9(s:ByteArray)(t:s.size<=4611686018427387904)(h:KZ s)(w:World):() 114 #[.string s,.int .i64 0] w fun e w'=>e=.returned (.tuple #[.int .i64 ((Bq (s.data.toList.drop 1)+2:Nat):Int),.nilIface])/\w=w':=by
 obtain⟨o,i,p,C⟩:=h;have l:=Hd (NK s t 1 (by omega) w);generalize Bq (s.data.toList.drop 1)=k at *;have j:s[1+k]=39:=by rw[get_some s _ o]at i;exact Option.some.inj i
 have I:((s[1+k].toNat:Int) != 39)=false:=by rw[j];rfl
 have J:((1:Int)+(k:Int)==1)=false:=bN.2 (by omega);clear i j p;go_enter Tryz.func114,Tryz.ntmps114
 go_wp2_with fail
 refine l.mono ?_;rintro e w' ⟨rfl,rfl⟩;go_wp2
 go_ret2
 exact⟨by simp;omega,rfl⟩
def lA(w:World)(e:Ending)(w':World):Prop:=∃A,e=.returned (.tuple #[.int .i64 0,.iface 174 (.pointer (some A))])/\Below w w w'
def Vh(s:ByteArray)(P:s.size<=4611686018427387904)(h0:0<s.size)(h:¬KZ s)(w:World):() 114 #[.string s,.int .i64 0] w (lA w):=by
 have p:=Hd (NK s P 1 (by omega) w);have U:Bq (s.data.toList.drop 1)<s.size:=by have:=T8 (s.data.toList.drop 1);simp only[List.length_drop,Io]at this;omega
 unfold KZ at h;generalize Bq (s.data.toList.drop 1)=k at *;by_cases I:1+k<s.size
 ·by_cases o:s[1+k]=39
  ·have J:((s[1+k].toNat:Int) != 39)=false:=by rw[o];rfl
   by_cases t:k=0
   ·subst t
    clear h o;go_enter Tryz.func114,Tryz.ntmps114
    go_wp2_with fail
    refine p.mono ?_;rintro e l ⟨rfl,rfl⟩;go_wp2_with (go_at_call 64;refine(Mw _ (by decide) _ _).mono ?_;rintro e l ⟨rfl,i⟩;have j:=Hd i;clear i)
    go_ret2
    exact⟨_,rfl,j⟩
   ·have T:((1:Int)+(k:Int)==1)=false:=bN.2 (by omega)
    have C:24<=1+k:=by
     by_cases C:1+k<24
     ·exfalso
      exact h ⟨I,by rw[get_some s _ I,o],t,C⟩
     ·omega
    have R:24<=(1:Int)+(k:Int):=by omega
    clear h o t C;go_enter Tryz.func114,Tryz.ntmps114
    go_wp2_with fail
    refine p.mono ?_;rintro e l ⟨rfl,rfl⟩;go_wp2_with (go_at_call 64;refine(Mw _ (by decide) _ _).mono ?_;rintro e l ⟨rfl,i⟩;have j:=Hd i;clear i)
    go_ret2
    exact⟨_,rfl,j⟩
  ·have J:((s[1+k].toNat:Int) != 39)=true:=by
    rw[bne_iff_ne];intro e;exact o (UInt8.toNat_inj.1 (by show s[1+k].toNat=39;omega))
   clear h o;go_enter Tryz.func114,Tryz.ntmps114
   go_wp2_with fail
   refine p.mono ?_;rintro e l ⟨rfl,rfl⟩;go_wp2_with (go_at_call 64;refine(Mw _ (by decide) _ _).mono ?_;rintro e l ⟨rfl,i⟩;have j:=Hd i;clear i)
   go_ret2
   exact⟨_,rfl,j⟩
 ·clear h
  go_enter Tryz.func114,Tryz.ntmps114
  go_wp2_with fail
  refine p.mono ?_;rintro e l ⟨rfl,rfl⟩;go_wp2_with (go_at_call 64;refine(Mw _ (by decide) _ _).mono ?_;rintro e l ⟨rfl,i⟩;have j:=Hd i;clear i)
  go_ret2
  exact⟨_,rfl,j⟩
def Wp(s:ByteArray):s.toList=s.data.toList:=ByteArray.toList_eq s
def CF(l:List UInt8):Bool:=l.head?==some 39&&(decide (1+Bq (l.drop 1)<l.length)&&(l[1+Bq (l.drop 1)]?==some 39)&&(Bq (l.drop 1) != 0)&&decide (1+Bq (l.drop 1)<24))&&(Bq (l.drop 1)+2==l.length)
def VF{s:ByteArray}(h:KZ s)(h0:s.data.toList.head?=some 39):CF s.data.toList=(Bq (s.data.toList.drop 1)+2==s.size):=by obtain⟨i,j,l,o⟩:=h;unfold CF;rw[h0,j,Io,decide_eq_true i,decide_eq_true o,show (Bq (s.data.toList.drop 1) != 0)=true from bne_iff_ne.2 l];rfl
theorem VB{s:ByteArray}(h:¬KZ s):CF s.data.toList=false:=by
 cases i:CF s.data.toList with
 | false=>rfl
 | true=>exfalso;unfold CF at i;simp only[Bool.and_eq_true,decide_eq_true_eq,beq_iff_eq,bne_iff_ne,ne_eq,Io]at i;exact h ⟨i.1.2.1.1.1,i.1.2.1.1.2,i.1.2.1.2,i.1.2.2⟩
def W4{l:List UInt8}(h:l.head?≠some 39):CF l=false:=by unfold CF;rw[bN.2 h];rfl
def Re(s:ByteArray)(h:0<s.size):s.data.toList.head?=some s[0]:=by rw[List.head?_eq_getElem?];exact get_some s 0 h
def fD{s:ByteArray}(h:s.size=0):s=⟨#[]⟩:=by have:s.data.toList=[]:=List.eq_nil_of_length_eq_zero (by rw[Io];exact h);exact ByteArray.ext (Array.ext' this)
def iH(s:ByteArray)(C:s.size<=4611686018427387904)(w:World):() 139 #[.string s] w fun e w'=>e=.returned (.bool (CF s.data.toList))/\Below w w w':=by
 by_cases h0:s.size=0
 ·obtain rfl:=fD h0
  go_enter Tryz.func139,Tryz.ntmps139
  go_wp2;go_ret;exact⟨rfl,Below.refl _ _⟩
 have p:0<s.size:=by omega
 have P:s.toList.isEmpty=false:=by rw[Wp,Nt];exact decide_eq_false h0
 by_cases i:s[0]=39
 ·have J:((s[0].toNat:Int) != 39)=false:=by rw[i];rfl
  have o:s.data.toList.head?=some 39:=by rw[Re s p,i]
  by_cases j:KZ s
  ·have l:=Hd (V9 s C j w)
   rw[VF j o];clear j o i h0;generalize Bq (s.data.toList.drop 1)=k at *;go_enter Tryz.func139,Tryz.ntmps139
   go_wp2_with fail
   refine l.mono ?_;rintro e w' ⟨rfl,rfl⟩;go_wp2;go_ret;refine⟨CI ?_,Below.refl _ _⟩;rw[Bool.eq_iff_iff,beq_iff_eq,beq_iff_eq];omega
  ·have l:=Hd (Vh s C p j w)
   rw[VB j];clear j o i h0;go_enter Tryz.func139,Tryz.ntmps139
   go_wp2_with fail
   refine l.mono ?_;rintro e w' ⟨A,rfl,t⟩;have I:=Hd t;clear t;go_wp2;go_ret;exact⟨rfl,I⟩
 ·have J:((s[0].toNat:Int) != 39)=true:=by
   rw[bne_iff_ne];intro e;exact i (UInt8.toNat_inj.1 (by show s[0].toNat=39;omega))
  rw[W4 (by rw[Re s p];simpa using i)];clear i h0;go_enter Tryz.func139,Tryz.ntmps139
  go_wp2;go_ret;exact⟨rfl,Below.refl _ _⟩
structure Ru where
 left:Int
 v:Value
 right:List Int
structure Gm where
 T:List ByteArray
 N:List ByteArray
 s:Int
 R:List Ru
def Ki(s:ByteArray):Bool:=CN s.data.toList
def Kf(s:ByteArray):Bool:=CN s.data.toList||CF s.data.toList
def IL(r:Ru):Bool:=decide (r.right.length<=8)
def Fz(a b:Ru):Bool:=a.left==b.left&&a.right==b.right
def lq(l:List Int):Prop:=∀(i:Nat) (x y:Int),l[i]?=some x->l[i+1]?=some y->x<=y
def Un(l:List Ru):Prop:=∀(i j:Nat) (x r:Ru),j<i->l[j]?=some x->l[i]?=some r->Fz x r=false
namespace Gm
def term(g:Gm)(s:Int):Bool:=decide (1<=s)&&decide (s<=(g.T.length:Int))
def BV(g:Gm)(s:Int):Bool:=decide ((g.T.length:Int)<s)&&decide (s<=(g.T.length:Int)+(g.N.length:Int))
def sym(g:Gm)(s:Int):Bool:=g.term s||g.BV s
def B7(g:Gm):Bool:=(decide (g.T.length<=120)&&decide (g.N.length<=120))&&(decide (g.R.length<=300)&&g.R.all IL)
def form(g:Gm):Bool:=g.T.all Kf&&g.N.all Ki
def once(g:Gm):Bool:=decide ((g.T++g.N).Nodup)
def Hh(g:Gm)(r:Ru):Bool:=g.BV r.left&&r.right.all g.sym
def known(g:Gm):Bool:=g.BV g.s&&g.R.all g.Hh
open Classical in
noncomputable def Hq (g:Gm):Bool:=decide (Un g.R)
def left(k:Int)(r:Ru):Bool:=r.left==k
def each(g:Gm):Bool:=(List.range g.N.length).all fun i=>g.R.any (left ((g.T.length:Int)+1+i))
noncomputable def check (g:Gm):Int:=if g.B7 then(if g.form then(if g.once then(if g.known then(if g.Hq then(if g.each then 0 else 9) else 8) else 1) else 8) else 10) else 7
def first(g:Gm)(i:Nat):Nat:=g.R.findIdx (left ((g.T.length:Int)+1+i))
def Nw(g:Gm):List Int:=(List.range g.N.length).map fun i=>(g.first i:Int)
open Classical in
noncomputable def ordered (g:Gm):Bool:=decide (lq g.Nw)
def name(g:Gm)(s:Int):ByteArray:=if s=0 then⟨#[36]⟩ else if s<1\/(g.T.length:Int)+(g.N.length:Int)<s then⟨#[]⟩ else(g.T++g.N).getD (s-1).toNat ⟨#[]⟩
def small(g:Gm):Prop:=(∀s∈g.T,s.size<=1048576)/\(∀s∈g.N,s.size<=1048576)/\g.T.length<=1048576/\g.N.length<=1048576/\g.R.length<=1048576/\∀r∈g.R,r.right.length<=1048576
end Gm
def str(l:List UInt8):ByteArray:=⟨l.toArray⟩
def WS(a:ByteArray):str a.data.toList=a:=by unfold str;simp
def LI(l:List UInt8):(str l).data.toList=l:=by unfold str;simp
def Kh(l:List UInt8):(str l).size=l.length:=by unfold str;rfl
def Cl(s:ByteArray):Value:=.string s
def B3(n:Int):Value:=.int .i64 n
def D0(r:Ru):Value:=.agg #[r.left,r.v]
def BB(w:World)(b:Bool)(e:Ending)(w':World):Prop:=e=.returned (.bool b)/\Below w w w'
structure BE{α:Type}(E:α->Value)(w:World)(v:Value)(l:List α):Prop where
 Gd:∃A c,v=.slice A l.length c/\∀k x,l[k]?=some x->∃b off,A=some ⟨b,off,none⟩/\b<w.heap.size/\w.cell? ⟨b,off+k,none⟩=some (E x)
 short:l.length<=4611686018427387904
 room:∀A n c,v=.slice A n c->n<=c/\(A=none->c=0)
def BE.later{o:Type}{E:o->Value}{w:World}{v:Value}{l:List o}(h:BE E w v l)(i:Below w w w'):BE E w' v l:=by obtain⟨⟨A,c,P,t⟩,J,I⟩:=h;refine⟨⟨A,c,P,fun k x R=>?_⟩,J,I⟩;obtain⟨b,off,p,j,C⟩:=t k x R;exact⟨b,off,p,Ba j i.size,(i.cell (p:=(b,off+k)) j).trans C⟩
def BE.nil{E:i->Value}(w:World)(A:Option Addr)(c:Nat)(h:A=none->c=0):BE E w (.slice A 0 c) []:=⟨⟨A,c,rfl,fun k x h=>by simp at h⟩,by simp,fun _ _ _ e=>by cases e;exact⟨AX _,h⟩⟩
def BE.take{p:Type}{E:p->Value}{w:World}{n c:Nat}{l:List p}(h:BE E w (.slice A n c) l)(k:Nat)(I:k<=n)(j:Nat)(C:k<=j/\(A=none->j=0)):BE E w (.slice A k j) (l.take k):=by
 obtain⟨⟨P,c1,J,t⟩,R⟩:=h;cases J
 refine⟨⟨A,j,by rw[List.length_take,Nat.min_eq_left I],fun i x o=>?_⟩,by rw[List.length_take];omega,fun _ _ _ e=>by cases e;exact C⟩;rw[List.getElem?_take]at o;split at o
 ·exact t i x o
 ·cases o
theorem BE.src{C:Type}{E:C->Value}{w:World}{v:Value}{l:List C}(h:BE E w v l)(J:∀x,(E x).oneCell'=true):AY w v l.length 1 (l.map E):=by
 obtain⟨⟨A,c,p,t⟩,hs,U⟩:=h;refine⟨fun u i=>?_,?_⟩
 ·obtain⟨x,_,rfl⟩:=List.mem_map.1 i
  exact J x
 ·cases A with
  | none=>
   left;have T:l=[]:=by
    cases l with
    | nil=>rfl
    | cons x r=>obtain⟨b,off,o,_⟩:=t 0 x rfl;cases o
   have h0:=(U _ _ _ p).2 rfl;subst T h0;exact⟨p,rfl,rfl⟩
  | some I=>
   right;refine⟨I,c,p,by simp,fun j u i=>?_⟩;rw[pG]at i;obtain⟨x,hx,rfl⟩:=Option.map_eq_some_iff.1 i;obtain⟨b,off,o,_,R⟩:=t j x hx;cases o
   have P:((b,off):Addr).add j=(b,off+j):=by
    unfold Addr.add;split
    ·rename_i h0;simp_all
    ·rfl
   rw[P];exact R
structure Fi(w:World)(v:Value)(l:List Ru):Prop where
 Gd:∃A c,v=.slice A l.length c/\∀k r,l[k]?=some r->∃b off,A=some ⟨b,off,none⟩/\b<w.heap.size/\w.cell? ⟨b,off+k*2,none⟩=some (.int .i64 r.left)/\w.cell? ⟨b,off+k*2+1,none⟩=some r.v/\BE B3 w r.v r.right
 short:l.length<=4611686018427387904
 room:∀A n c,v=.slice A n c->n<=c/\(A=none->c=0)
variable{l:List Ru}
def Fi.later{w:World}{v:Value}(h:Fi w v l)(i:Below w w w'):Fi w' v l:=by obtain⟨⟨A,c,T,I⟩,R,P⟩:=h;refine⟨⟨A,c,T,fun k r J=>?_⟩,R,P⟩;obtain⟨b,off,C,j,o,p,t⟩:=I k r J;exact⟨b,off,C,Ba j i.size,(i.cell (p:=(b,off+k*2)) j).trans o,(i.cell (p:=(b,off+k*2+1)) j).trans p,t.later i⟩
def Fi.take{w:World}{n c:Nat}(h:Fi w (.slice A n c) l)(k:Nat)(C:k<=n)(j:Nat)(t:k<=j/\(A=none->j=0)):Fi w (.slice A k j) (l.take k):=by
 obtain⟨⟨J,c1,I,p⟩,P⟩:=h;cases I
 refine⟨⟨A,j,by rw[List.length_take,Nat.min_eq_left C],fun i x o=>?_⟩,by rw[List.length_take];omega,fun _ _ _ e=>by cases e;exact t⟩;rw[List.getElem?_take]at o;split at o
 ·exact p i x o
 ·cases o
def Fi.mem{w:World}{v:Value}(h:Fi w v l){r:Ru}(t:r∈l):BE B3 w r.v r.right:=by obtain⟨⟨A,c,I,j⟩,C⟩:=h;obtain⟨k,p,o⟩:=List.mem_iff_getElem.1 t;exact(j k r (by rw[<-o];exact eG p)).elim fun _ ⟨_,_,_,_,_,i⟩=>i
structure Et(w:World)(v:Value)(g:Gm):Prop where
 Gd:∃vT vN vR,v=.agg #[vT,vN,vR,g.s]/\BE Cl w vT g.T/\BE Cl w vN g.N/\Fi w vR g.R
 small:g.small
def Et.later{w:World}{v:Value}{g:Gm}(h:Et w v g)(i:Below w w w'):Et w' v g:=by obtain⟨⟨J,C,I,t,j,l,o⟩,p⟩:=h;exact⟨⟨J,C,I,t,j.later i,l.later i,o.later i⟩,p⟩
structure Qp(w:World)(v:Value)(r:Ru):Prop where
 Gd:v=D0 r
 right:BE B3 w r.v r.right
def GY{i:Type}(p:i->Bool)(l:List i):Int:=if l.any p then(l.findIdx p:Nat) else -1
def NY{p:i->Bool}{l:List i}{k:Nat}{x:i}(J:l[k]?=some x)(t:p x=true)(C:∀j y,j<k->l[j]?=some y->p y=false):GY p l=k:=by obtain⟨o,rfl⟩:=sG.1 J;unfold GY;rw[if_pos (List.any_eq_true.2 ⟨_,List.getElem_mem o,t⟩)];congr 1;rw[List.findIdx_eq o];exact⟨t,fun j I=>C j _ I (eG (by omega))⟩
def Pc{t:Type}{p:t->Bool}{l:List t}(C:∀j y,j<l.length->l[j]?=some y->p y=false):GY p l = -1:=by unfold GY;rw[if_neg];rw[List.any_eq_true];rintro⟨x,J,o⟩;obtain⟨k,i,I⟩:=List.mem_iff_getElem.1 J;rw[C k x i (by rw[<-I];exact eG i)]at o;cases o
theorem Oe(p:i->Bool)(l:List i):decide (0<=GY p l)=l.any p:=by
 unfold GY;cases h:l.any p with
 | true=>rw[if_pos rfl,decide_eq_true_eq];omega
 | false=>rw[if_neg (by simp),decide_eq_false_iff_not];omega
def AG(w:World)(o:Obj):Below w w (w.alloc o):=(Below.refl _ w).alloc (AF _) o
def Fv{w:World}{o:Obj}(h:Below (w.alloc o).heap.size (w.alloc o) w'):Below w w w':=
 ((Below.refl _ w).alloc (AF _) o).trans (h.mono (by simp))
def OC(p:i->Bool)(l:List i):(!l.any fun x=>!p x)=l.all p:=by rw[List.all_eq_not_any_not]
end Go.Proofs.YtlogpnoioimhjaaGreatDoor
