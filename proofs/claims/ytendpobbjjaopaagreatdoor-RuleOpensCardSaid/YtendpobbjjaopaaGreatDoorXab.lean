/- . -/
import Derived.Test.YtendpobbjjaopaaGreatDoorRows
import Derived.Test.YtendpobbjjaopaaGreatDoorXaa
import Derived.WalkSpells
import Derived.WalkLawsBesides
import Derived.BigQuiet
import Derived.Deep.QuietTactic
import Derived.Laws.RangeString
import Derived.Laws.RangeAny
import Derived.Test.YtendpobbjjaopaaGreatDoorXnm
set_option linter.all false
set_option maxRecDepth 100000
set_option maxHeartbeats 16000000
namespace Go.Proofs.YtendpobbjjaopaaGreatDoor
open Go.RowKit
open Value renaming slice→oG,int→oH,string→oJ,bool→oK
open Option renaming some→oM,none→oN
open IntKind renaming i64→oO
open Ending renaming returned→oQ
open Go renaming World→oU,Value→oV
variable{w':oU}{i:Type}{A:Option Addr}
def Cr{a b:Bool}(h:a=b):Ending.returned (oK a)=oQ (oK b):=by rw[h]
def Bo(c:UInt8):Nat:=
 if c=0 then 0 else if c=32\/c=9 then 1 else if c=10 then 2
 else if c=38\/c=124\/c=59\/c=60\/c=62\/c=40\/c=41 then 5
 else if c=39\/c=34\/c=92\/c=96 then 6
 else if c=36 then 7
 else if 48<=c/\c<=57 then 3
 else if c=95\/(97<=c|||32/\c|||32<=122) then 4
 else 8
def OF(n o:Int):Nat:=if 48<=n/\n<=57 then 3 else if n=95\/(97<=o/\o<=122) then 4 else 8
def ON(n o:Int):Nat:=
 if n=0 then 0 else if n=32\/n=9 then 1 else if n=10 then 2
 else if n=38\/n=124\/n=59\/n=60\/n=62\/n=40\/n=41 then 5
 else if n=39\/n=34\/n=92\/n=96 then 6
 else if n=36 then 7 else OF n o
def KA:List UInt8:=(List.range 256).map UInt8.ofNat
def Mp(c:UInt8):c∈KA:=List.mem_map.2 ⟨c.toNat,List.mem_range.2 c.toNat_lt,oA⟩
def lO:KA.all (fun c=>ON c.toNat (bits .or .u8 c.toNat 32)==Bo c)=true:=by kernel_rfl
def Zw(c:UInt8):ON c.toNat (bits .or .u8 c.toNat 32)=Bo c:=by have:=List.all_eq_true.1 lO c (Mp c);exact beq_iff_eq.1 this
def kC(c:UInt8)(w:oU):() 89 #[oH .u8 c.toNat] w fun e w'=>e=oQ (oH oO (OF c.toNat (bits .or .u8 c.toNat 32)))/\w'=w:=by
 go_enter Tryz.func89,Tryz.ntmps89
 generalize (c.toNat:Int)=n;go_wp2;all_goals go_ret
 all_goals refine⟨?_,rfl⟩
 all_goals refine congrArg (fun k:Int=>Ending.returned (Value.int oO k)) ?_
 all_goals (
  unfold OF;try simp only[beq_iff_eq,bN]at *
  repeat' split
  all_goals first|rfl|(exfalso;omega))
def I4(c:UInt8)(w:oU):() 53 #[oH .u8 c.toNat] w fun e w'=>e=oQ (oH oO (Bo c))/\w'=w:=by
 rw[<-Zw];have i:=Hd (kC c);go_enter Tryz.func53,Tryz.ntmps53
 go_wp2_with (go_at_call 89;refine(i _).mono ?_;rintro e w' ⟨rfl,rfl⟩)
 all_goals go_ret
 all_goals refine⟨?_,rfl⟩
 all_goals refine congrArg (fun k:Int=>Ending.returned (Value.int oO k)) ?_
 all_goals clear i
 all_goals generalize (c.toNat:Int)=n at *
 all_goals (
  unfold ON;try simp only[beq_iff_eq,bN]at *
  repeat' split
  all_goals first|rfl|(exfalso;omega))
def IW(n:Int):Nat:=
 if n=0 then 0 else if n=32\/n=9 then 1 else if n=10 then 2
 else if 48<=n/\n<=57 then 3
 else if (97<=n/\n<=122)\/(65<=n/\n<=90)\/n=95 then 4
 else if n=38\/n=124\/n=59\/n=60\/n=62\/n=40\/n=41 then 5
 else if n=39\/n=34\/n=92\/n=96 then 6
 else if n=36 then 7 else 8
def gQ:KA.all (fun c=>IW c.toNat==Bo c)=true:=by kernel_rfl
def Xu(c:UInt8):IW c.toNat=Bo c:=by have:=List.all_eq_true.1 gQ c (Mp c);exact beq_iff_eq.1 this
def FU{a b:Nat}(h:a=b):Ending.returned (oH oO (a:Int))=oQ (oH oO (b:Int)):=by rw[h]
def QP(c:UInt8)(w:oU):() 56 #[oH .u8 c.toNat] w fun e w'=>e=oQ (oH oO (Bo c))/\w=w':=by
 rw[<-Xu];generalize (c.toNat:Int)=n;have a9:(n<48)\/(48<=n/\n<=57)\/(57<n/\n<65)\/(65<=n/\n<=90)\/(90<n/\n<97)\/(97<=n/\n<=122)\/(122<n):=by omega
 rcases a9 with h|h|h|h|h|h|h
 ·have i:n<48:=by omega
  have j:n<65:=by omega
  have l:n<97:=by omega
  have a7:(n==95)=false:=bN.2 nX;have P:(n==124)=false:=bN.2 nX;have a3:(n==59)=false:=bN.2 nX;have a4:(n==60)=false:=bN.2 nX;have a5:(n==62)=false:=bN.2 nX;have a6:(n==92)=false:=bN.2 nX;have a8:(n==96)=false:=bN.2 nX;clear h;go_enter Tryz.func56,Tryz.ntmps56
  go_wp2;all_goals go_ret
  all_goals refine⟨FU ?_,rfl⟩
  all_goals first
   | rfl
   | decide
   | (
    unfold IW;try simp only[beq_iff_eq,bN]at *
    repeat' split
    all_goals first|rfl|(exfalso;omega))
 ·have i:48<=n:=by omega
  have j:n<=57:=by omega
  have o:(n==0)=false:=bN.2 nX;have t:(n==32)=false:=bN.2 nX;have C:(n==9)=false:=bN.2 nX;have p:(n==10)=false:=bN.2 nX;clear h;go_enter Tryz.func56,Tryz.ntmps56
  go_wp2;all_goals go_ret
  all_goals refine⟨FU ?_,rfl⟩
  all_goals first
   | rfl
   | decide
   | (
    unfold IW;try simp only[bN]at *
    repeat' split
    all_goals first|rfl|(exfalso;omega))
 ·have i:48<=n:=by omega
  have j:57<n:=by omega
  have l:n<65:=by omega
  have I:n<97:=by omega
  have o:(n==0)=false:=bN.2 nX;have t:(n==32)=false:=bN.2 nX;have C:(n==9)=false:=bN.2 nX;have p:(n==10)=false:=bN.2 nX;have a7:(n==95)=false:=bN.2 nX;have U:(n==38)=false:=bN.2 nX;have P:(n==124)=false:=bN.2 nX;have a1:(n==40)=false:=bN.2 nX;have a2:(n==41)=false:=bN.2 nX;have a0:(n==39)=false:=bN.2 nX;have R:(n==34)=false:=bN.2 nX
  have a6:(n==92)=false:=bN.2 nX;have a8:(n==96)=false:=bN.2 nX;have T:(n==36)=false:=bN.2 nX;clear h;go_enter Tryz.func56,Tryz.ntmps56
  go_wp2;all_goals go_ret
  all_goals refine⟨FU ?_,rfl⟩
  all_goals first
   | rfl
   | decide
   | (
    unfold IW;try simp only[beq_iff_eq,bN]at *
    repeat' split
    all_goals first|rfl|(exfalso;omega))
 ·have i:48<=n:=by omega
  have j:57<n:=by omega
  have l:65<=n:=by omega
  have I:n<=90:=by omega
  have J:n<97:=by omega
  have o:(n==0)=false:=bN.2 nX;have t:(n==32)=false:=bN.2 nX;have C:(n==9)=false:=bN.2 nX;have p:(n==10)=false:=bN.2 nX;clear h;go_enter Tryz.func56,Tryz.ntmps56
  go_wp2;all_goals go_ret
  all_goals refine⟨FU ?_,rfl⟩
  all_goals first
   | rfl
   | decide
   | (
    unfold IW;try simp only[bN]at *
    repeat' split
    all_goals first|rfl|(exfalso;omega))
 ·have i:48<=n:=by omega
  have j:57<n:=by omega
  have l:65<=n:=by omega
  have I:90<n:=by omega
  have J:n<97:=by omega
  have o:(n==0)=false:=bN.2 nX;have t:(n==32)=false:=bN.2 nX;have C:(n==9)=false:=bN.2 nX;have p:(n==10)=false:=bN.2 nX;have U:(n==38)=false:=bN.2 nX;have P:(n==124)=false:=bN.2 nX;have a3:(n==59)=false:=bN.2 nX;have a4:(n==60)=false:=bN.2 nX;have a5:(n==62)=false:=bN.2 nX;have a1:(n==40)=false:=bN.2 nX;have a2:(n==41)=false:=bN.2 nX
  have a0:(n==39)=false:=bN.2 nX;have R:(n==34)=false:=bN.2 nX;have T:(n==36)=false:=bN.2 nX;clear h;go_enter Tryz.func56,Tryz.ntmps56
  go_wp2;all_goals go_ret
  all_goals refine⟨FU ?_,rfl⟩
  all_goals first
   | rfl
   | decide
   | (
    unfold IW;try simp only[beq_iff_eq,bN]at *
    repeat' split
    all_goals first|rfl|(exfalso;omega))
 ·have i:48<=n:=by omega
  have j:57<n:=by omega
  have l:97<=n:=by omega
  have I:n<=122:=by omega
  have o:(n==0)=false:=bN.2 nX;have t:(n==32)=false:=bN.2 nX;have C:(n==9)=false:=bN.2 nX;have p:(n==10)=false:=bN.2 nX;clear h;go_enter Tryz.func56,Tryz.ntmps56
  go_wp2;all_goals go_ret
  all_goals refine⟨FU ?_,rfl⟩
  all_goals first
   | rfl
   | decide
   | (
    unfold IW;try simp only[bN]at *
    repeat' split
    all_goals first|rfl|(exfalso;omega))
 ·have i:48<=n:=by omega
  have j:57<n:=by omega
  have l:65<=n:=by omega
  have I:90<n:=by omega
  have J:97<=n:=by omega
  have q5:122<n:=by omega
  have o:(n==0)=false:=bN.2 nX;have t:(n==32)=false:=bN.2 nX;have C:(n==9)=false:=bN.2 nX;have p:(n==10)=false:=bN.2 nX;have a7:(n==95)=false:=bN.2 nX;have U:(n==38)=false:=bN.2 nX;have a3:(n==59)=false:=bN.2 nX;have a4:(n==60)=false:=bN.2 nX;have a5:(n==62)=false:=bN.2 nX;have a1:(n==40)=false:=bN.2 nX;have a2:(n==41)=false:=bN.2 nX
  have a0:(n==39)=false:=bN.2 nX;have R:(n==34)=false:=bN.2 nX;have a6:(n==92)=false:=bN.2 nX;have a8:(n==96)=false:=bN.2 nX;have T:(n==36)=false:=bN.2 nX;clear h;go_enter Tryz.func56,Tryz.ntmps56
  go_wp2;all_goals go_ret
  all_goals refine⟨FU ?_,rfl⟩
  all_goals first
   | rfl
   | decide
   | (
    unfold IW;try simp only[bN]at *
    repeat' split
    all_goals first|rfl|(exfalso;omega))
def Ek:List UInt8->Bool
 | []=>false
 | c::r=>Bo c==4&&r.all fun d=>Bo d==4||Bo d==3
def H6(s:ByteArray)(k:Nat)(h:k<s.size):s.data.toList.drop k=s[k]::s.data.toList.drop (k+1):=by rw[List.drop_eq_getElem_cons (by simpa using h)];rfl
def Lx(s:ByteArray):s.data.toList.drop s.size=[]:=List.drop_of_length_le oA
theorem L0(s:ByteArray):s.data.toList.isEmpty=decide (s.size=0):=by
 have h:s.data.toList.length=s.size:=by simp
 cases i:s.data.toList with
 | nil=>rw[i]at h;simp at h;simp[<-h]
 | cons a l=>rw[i]at h;simp at h;simp[<-h]
def size_pos(s:ByteArray):decide (0<s.size)=(!decide (s.size=0)&&true):=by rw[Bool.eq_iff_iff,Bool.and_true,Bool.not_eq_true',decide_eq_true_eq,decide_eq_false_iff_not];omega
def KH(l:List UInt8):Bool:=l.all fun d=>Bo d==4||Bo d==3
def Dm(k:Nat)(l:List UInt8):Bool:=if k=0 then(match l with|[]=>true|c::r=>Bo c==4&&KH r) else KH l
theorem Ty(s:ByteArray):Ek s.data.toList=(!decide (s.size=0)&&Dm 0 s.data.toList):=by
 rw[<-L0];cases s.data.toList with
 | nil=>rfl
 | cons c r=>simp[Ek,Dm,KH]
def lQ(s:ByteArray)(hs:s.size<=9223372036854775807)(w:oU):() 33 #[oJ s] w fun e w'=>e=oQ (oK (Ek s.data.toList))/\w=w':=by
 have J:=Hd (Ty s);go_enter Tryz.func33,Tryz.ntmps33
 go_wp2
 go_loop [3,4] (fun i _=>∃k:Nat,k<=s.size/\i=oH oO k/\Hid (Dm 0 s.data.toList=Dm k (s.data.toList.drop k))) (fun i _=>s.size-(intOf i).toNat)
 case atStart=>exact⟨0,AX _,rfl,Hd rfl⟩
 case round=>
  obtain⟨k,hk,rfl,I⟩:=hrel;by_cases U:k<s.size
  ·have P:=Hd (H6 s k U)
   have o:=Hd (QP s[k] w);have hz:s.size≠0:=by omega
   by_cases t:Bo s[k]=4\/(Bo s[k]=3/\k≠0)
   ·have C:Hid (Dm 0 s.data.toList=Dm (k+1) (s.data.toList.drop (k+1))):=Hd (by
     rw[I.out,P.out];unfold Dm;rw[if_neg (Nat.succ_ne_zero k)];by_cases j:k=0
     ·rw[if_pos j]
      have p:Bo s[k]=4:=by omega
      simp[p]
     ·rw[if_neg j]
      rcases t with h|h
      ·simp[KH,h]
      ·simp[KH,h.1])
    rcases t with p|⟨l,j⟩
    ·rw[p]at o
     clear p;go_wp2_with (go_at_call 56;refine o.mono ?_;rintro e w' ⟨rfl,rfl⟩)
     go_round
     case rel=>exact⟨k+1,nX,oD,C⟩
     case measure=>simp[intOf];omega
    ·rw[l]at o
     have a1:((k:Int)==0)=false:=by simp;omega
     clear l;go_wp2_with (go_at_call 56;refine o.mono ?_;rintro e w' ⟨rfl,rfl⟩)
     go_round
     case rel=>exact⟨k+1,nX,oD,C⟩
     case measure=>simp[intOf];omega
   ·have C:Hid (Dm 0 s.data.toList=false):=Hd (by
     rw[I.out,P.out];unfold Dm;have p:Bo s[k]≠4:=fun h=>t (.inl h)
     by_cases j:k=0
     ·rw[if_pos j]
      simp[p]
     ·rw[if_neg j]
      have l:Bo s[k]≠3:=fun h=>t (.inr ⟨h,j⟩)
      simp[KH,p,l])
    have a0:((Bo s[k]:Int) != 4)=true:=by
     have:Bo s[k]≠4:=fun h=>t (.inl h)
     simp;omega
    by_cases l:Bo s[k]=3
    ·have j:k=0:=by omega
     subst j;rw[l]at o;clear l t a0;go_wp2_with (go_at_call 56;refine o.mono ?_;rintro e w' ⟨rfl,rfl⟩)
     go_ret;exact⟨Cr (by rw[J.out,C.out,Bool.and_false]),rfl⟩
    ·have a2:((Bo s[k]:Int) != 3)=true:=by simp;omega
     clear t;generalize Bo s[k]=q at *;clear l;go_wp2_with (go_at_call 56;refine o.mono ?_;rintro e w' ⟨rfl,rfl⟩)
     go_ret;exact⟨Cr (by rw[J.out,C.out,Bool.and_false]),rfl⟩
  ·obtain rfl:k=s.size:=by omega
   have R:Dm 0 s.data.toList=true:=by rw[I.out,Lx];unfold Dm;split<;>rfl
   have T:=Hd R;clear R I;go_wp2;go_ret;refine⟨Cr ?_,rfl⟩;rw[J.out,T.out];exact size_pos s
def Fg(c:UInt8):Bool:=33<=c.toNat&&c.toNat<=126&&c.toNat != 39
def PH(n:Int):Bool:=decide (33<=n)&&decide (n<=126)&&!(n==39)
def Zn:KA.all (fun c=>PH c.toNat==Fg c)=true:=by kernel_rfl
def VI(c:UInt8):PH c.toNat=Fg c:=beq_iff_eq.1 (List.all_eq_true.1 Zn c (Mp c))
def nS(c:UInt8)(w:oU):() 193 #[oH .u8 c.toNat] w fun e w'=>e=oQ (oK (Fg c))/\w=w':=by
 rw[<-VI];go_enter Tryz.func193,Tryz.ntmps193
 generalize (c.toNat:Int)=n;unfold PH;go_wp2;all_goals go_ret
 all_goals refine⟨Cr ?_,rfl⟩
 all_goals (rw[Bool.eq_iff_iff];simp[*]<;>omega)
def E5(l:List UInt8):Bool:=l.all fun c=>decide (c.toNat<128)
def P8(s:ByteArray)(J:s.size<=9223372036854775807)(w:oU):() 50 #[oJ s] w fun e w'=>e=oQ (oK (E5 s.data.toList))/\w=w':=by
 go_enter Tryz.func50,Tryz.ntmps50
 go_wp2
 go_loop [6] (fun i=>∃k:Nat,k<=s.size/\i=oH oO k/\Hid (E5 s.data.toList=E5 (s.data.toList.drop k))) (fun i=>s.size-(intOf i).toNat)
 case atStart=>exact⟨0,AX _,rfl,Hd rfl⟩
 case round=>
  obtain⟨k,I,rfl,o⟩:=hrel;by_cases C:k<s.size
  ·have p:=Hd (H6 s k C)
   have l:Hid (E5 s.data.toList=(decide (s[k].toNat<128)&&E5 (s.data.toList.drop (k+1)))):=Hd (by rw[o.out,p.out];rfl);by_cases h:s[k].toNat<128
   ·have j:Hid (E5 s.data.toList=E5 (s.data.toList.drop (k+1))):=Hd (by rw[l.out,decide_eq_true h,Bool.true_and])
    have t:(s[k].toNat:Int)<128:=by omega
    clear h;go_wp2
    go_round
    case rel=>exact⟨k+1,nX,oD,j⟩
    case measure=>simp[intOf];omega
   ·have j:Hid (E5 s.data.toList=false):=Hd (by rw[l.out,decide_eq_false h,Bool.false_and])
    have t:128<=(s[k].toNat:Int):=by omega
    clear h;go_wp2;go_ret;exact⟨Cr j.symm,rfl⟩
  ·obtain rfl:k=s.size:=by omega
   have j:Hid (E5 s.data.toList=true):=Hd (by rw[o.out,Lx];rfl);go_wp2;go_ret;exact⟨Cr j.symm,rfl⟩
def nameAt(i:Int)(q:Int):Bool:=(q==4)||((q==3)&&decide (0<i))
def dD(i:Int)(c:UInt8)(w:oU):() 52 #[i,oH .u8 c.toNat] w fun e w'=>e=oQ (oK (nameAt i (Bo c)))/\w=w':=by
 have j:=Hd (I4 c w);generalize (Bo c:Int)=q at *;unfold nameAt;go_enter Tryz.func52,Tryz.ntmps52
 go_wp2_with (go_at_call 53;refine j.mono ?_;rintro e w' ⟨rfl,rfl⟩)
 all_goals go_ret
 all_goals exact⟨Cr (by simp[*]),rfl⟩
def jQ(k:Nat)(c:UInt8):nameAt k (Bo c)=(Bo c==4||(Bo c==3&&k != 0)):=by
 have i:((Bo c:Int)==4)=(Bo c==4):=by rw[Bool.eq_iff_iff,beq_iff_eq,beq_iff_eq];omega
 have j:((Bo c:Int)==3)=(Bo c==3):=by rw[Bool.eq_iff_iff,beq_iff_eq,beq_iff_eq];omega
 have l:decide ((0:Int)<(k:Int))=(k != 0):=by rw[Bool.eq_iff_iff,decide_eq_true_eq,bne_iff_ne];omega
 unfold nameAt;rw[i,j,l]
def jO(s:ByteArray)(k:Nat)(h:k<s.size)(l:Dm 0 s.data.toList=Dm k (s.data.toList.drop k)):Dm 0 s.data.toList=(nameAt k (Bo s[k])&&Dm (k+1) (s.data.toList.drop (k+1))):=by
 rw[l,H6 s k h,jQ];unfold Dm;rw[if_neg (Nat.succ_ne_zero k)];by_cases i:k=0
 ·rw[if_pos i];simp[i]
 ·have j:(k != 0)=true:=by simpa using i
  rw[if_neg i,j,Bool.and_true];rfl
def M6(w:oU)(s:ByteArray)(k:Nat):Below w w (w.iter s k):=(Below.refl _ _).alloc (Ay _) _
def me(s:ByteArray)(U:s.size<=9223372036854775807)(ha:E5 s.data.toList=true)(w:oU):() 51 #[oJ s,.func (.func 52) #[] #[]] w fun e w'=>e=oQ (oK (Ek s.data.toList))/\Below w w w':=by
 have J:Hid (∀k,∀h:k<s.size,s[k].toNat<128):=Hd (fun k h=>by
  have P:=List.all_eq_true.1 ha s[k] (by
   have:s.data.toList[k]?=oM s[k]:=by rw[Array.getElem?_toList];exact Array.getElem?_eq_getElem h
   exact mG this)
  exact of_decide_eq_true P)
 have I:=Hd (Ty s);clear ha;go_enter Tryz.func51,Tryz.ntmps51
 go_wp2;go_loopw [] (fun wr=>∃k:Nat,k<=s.size/\wr=w.iter s k/\Hid (Dm 0 s.data.toList=Dm k (s.data.toList.drop k))) (fun wr=>s.size-wr.iterPos w.heap.size)
 case atStart=>exact⟨0,AX _,rfl,Hd rfl⟩
 case round=>
  obtain⟨k,T,rfl,j⟩:=hrel;by_cases C:k<s.size
  ·have R:∀i,(Instr.next (w,0) true i).run Tryz.prog (w.iter s k)=_:=fun i=>run_next_ascii w s k i C (J k C)
   have p:=Hd (jO s k C j);have o:=Hd (dD k s[k] (w.iter s (k+1)));cases t:nameAt k (Bo s[k]) with
   | true=>
    rw[t]at o p;have l:Hid (Dm 0 s.data.toList=Dm (k+1) (s.data.toList.drop (k+1))):=Hd (by rw[p.out,Bool.true_and]);clear t j;go_wp2_with (go_at_call 52;refine o.mono ?_;rintro e w' ⟨rfl,rfl⟩)
    go_roundw
    case rel=>exact⟨k+1,nX,rfl,l⟩
    case measure=>simp;omega
   | false=>
    rw[t]at o p;have l:Hid (Dm 0 s.data.toList=false):=Hd (by rw[p.out,Bool.false_and]);clear t j;go_wp2_with (go_at_call 52;refine o.mono ?_;rintro e w' ⟨rfl,rfl⟩)
    go_ret;exact⟨Cr (by rw[I.out,l.out,Bool.and_false]),M6 w s _⟩
  ·have R:∀i,(Instr.next (w,0) true i).run Tryz.prog (w.iter s k)=_:=fun i=>run_next_end w s k i C
   obtain rfl:k=s.size:=by omega
   have l:Hid (Dm 0 s.data.toList=true):=Hd (by rw[j.out,Lx];unfold Dm;split<;>rfl)
   clear j;go_wp2;go_ret;refine⟨Cr ?_,M6 w s _⟩;rw[I.out,l.out,Bool.and_true];rw[show s.toList=s.data.toList from ByteArray.toList_eq s,L0]
def Qn{c:UInt8}(h:¬c.toNat<128):Bo c=8:=by have h0:=List.all_eq_true.1 (show KA.all (fun c=>decide (c.toNat<128)||(Bo c==8))=true by kernel_rfl) c (Mp c);rw[decide_eq_false h,Bool.false_or]at h0;exact beq_iff_eq.1 h0
theorem X6{l:List UInt8}(h:Ek l=true):E5 l=true:=by
 cases l with
 | nil=>cases h
 | cons c r=>
  simp only[Ek,Bool.and_eq_true,beq_iff_eq,List.all_eq_true,Bool.or_eq_true]at h;unfold E5;rw[List.all_eq_true];intro d i;rw[decide_eq_true_eq];by_cases j:d.toNat<128
  ·exact j
  ·have o:=Qn j
   rcases List.mem_cons.1 i with rfl|i
   ·omega
   ·rcases h.2 d i with e|e<;>omega
theorem Nk(s:ByteArray)(o:s.size<=9223372036854775807)(w:oU):() 29 #[oJ s] w fun e w'=>e=oQ (oK (Ek s.data.toList))/\Below w w w':=by
 have i:=Hd (P8 s o w);cases ha:E5 s.data.toList with
 | true=>
  rw[ha]at i;have t:=Hd (me s o ha w);clear ha;go_enter Tryz.func29,Tryz.ntmps29
  go_wp2_with (go_at_call 50;refine i.mono ?_;rintro e w' ⟨rfl,rfl⟩)
  refine t.mono ?_;rintro e w' ⟨rfl,j⟩;have p:=Hd j;clear j;go_wp2;go_ret;exact⟨rfl,p⟩
 | false=>
  rw[ha]at i;have l:Ek s.data.toList=false:=by
   cases h:Ek s.data.toList with
   | false=>rfl
   | true=>rw[X6 h]at ha;cases ha
  rw[l];clear ha l;go_enter Tryz.func29,Tryz.ntmps29
  go_wp2_with (go_at_call 50;refine i.mono ?_;rintro e w' ⟨rfl,rfl⟩)
  go_ret;exact⟨rfl,Below.refl _ _⟩
def CS(l:List UInt8):Bool:=Ek l&&decide (l.length<=24)
def Iz(t:ByteArray):t.data.toList.length=t.size:=by simp
def Ur(s:ByteArray)(p:s.size<=9223372036854775807)(w:oU):() 165 #[oJ s] w fun e w'=>e=oQ (oK (CS s.data.toList))/\Below w w w':=by
 have l:=Hd (Nk s p w);unfold CS;rw[Iz];generalize Ek s.data.toList=b at *;by_cases h:s.size<=24
 ·rw[decide_eq_true h,Bool.and_true]
  have o:(s.size:Int)<=24:=by omega
  clear h;go_enter Tryz.func165,Tryz.ntmps165
  go_wp2_with fail
  refine l.mono ?_;rintro e w' ⟨rfl,i⟩;have j:=Hd i;clear i;go_wp2;go_ret;exact⟨rfl,j⟩
 ·rw[decide_eq_false h,Bool.and_false]
  have o:¬(s.size:Int)<=24:=by omega
  clear h;go_enter Tryz.func165,Tryz.ntmps165
  go_wp2;go_ret;exact⟨rfl,Below.refl _ _⟩
def Bt(l:List UInt8):Nat:=(l.takeWhile Fg).length
def R8(l:List UInt8):Bt l<=l.length:=(List.takeWhile_sublist Fg).length_le
def Vv(c:UInt8)(l:List UInt8):Bt (c::l)=if Fg c then Bt l+1 else 0:=by unfold Bt;rw[List.takeWhile_cons];split<;>simp
def Qp(s:ByteArray)(p k:Nat):Prop:=p+k<=s.size/\Bt (s.data.toList.drop p)=k+Bt (s.data.toList.drop (p+k))
def O9(s:ByteArray)(R:s.size<=4611686018427387904)(p:Nat)(P:p<=s.size)(w:oU):() 138 #[oJ s,p,.func (.func 193) #[] #[]] w fun e w'=>e=oQ (oH oO (Bt (s.data.toList.drop p)))/\w=w':=by
 go_enter Tryz.func138,Tryz.ntmps138
 go_wp2
 go_loop [7] (fun n=>∃k:Nat,p+k<=s.size/\n=oH oO k/\Hid (Qp s p k)) (fun n=>s.size-(intOf n).toNat)
 case atStart=>exact⟨0,nX,rfl,Hd ⟨nX,oA⟩⟩
 case round=>
  obtain⟨k,J,rfl,t⟩:=hrel;by_cases I:p+k<s.size
  ·have C:=Hd (H6 s (p+k) I)
   have o:=Hd (nS s[p+k] w);cases j:Fg s[p+k] with
   | true=>
    rw[j]at o;have l:Hid (Qp s p (k+1)):=Hd ⟨nX,by have i:=t.2;rw[C.out,Vv,if_pos j]at i;rw[i];show k+(Bt (s.data.toList.drop (p+k+1))+1)=k+1+Bt (s.data.toList.drop (p+(k+1)));rw[Nat.add_assoc p k 1];omega⟩
    clear j;go_wp2_with (go_at_call 193;refine o.mono ?_;rintro e w' ⟨rfl,rfl⟩)
    go_round
    case rel=>exact⟨k+1,nX,oD,l⟩
    case measure=>simp[intOf];omega
   | false=>
    rw[j]at o;have l:Hid (Bt (s.data.toList.drop p)=k):=Hd (by have i:=t.2;rw[C.out,Vv,j]at i;simpa using i)
    clear j;go_wp2_with (go_at_call 193;refine o.mono ?_;rintro e w' ⟨rfl,rfl⟩)
    go_ret;exact⟨FU l.symm,rfl⟩
  ·have l:Hid (Bt (s.data.toList.drop p)=k):=Hd (by
    have i:=t.2;rw[show s.data.toList.drop (p+k)=[] from List.drop_of_length_le oC]at i;simpa [Bt] using i)
   go_wp2;go_ret;exact⟨FU l.symm,rfl⟩
def Nn(k:Int)(i:k≠0)(p:Int)(w:oU):() 64 #[k,p] w fun e w'=>e=oQ (.iface 171 (w,0))/\Below w w w':=by
 have h0:(k==0)=false:=by simpa using i
 clear i;go_enter Tryz.func64,Tryz.ntmps64
 go_wp2;go_ret;exact⟨rfl,(Below.refl _ _).alloc (Ay _) _⟩
def KS(s:ByteArray):Prop:=1+Bt (s.data.toList.drop 1)<s.size/\s.data.toList[1+Bt (s.data.toList.drop 1)]?=oM 39/\Bt (s.data.toList.drop 1)≠0/\1+Bt (s.data.toList.drop 1)<24
def get_some(s:ByteArray)(k:Nat)(h:k<s.size):s.data.toList[k]?=oM s[k]:=by rw[Array.getElem?_toList];exact Array.getElem?_eq_getElem h
def ZM(s:ByteArray)(t:s.size<=4611686018427387904)(h:KS s)(w:oU):() 140 #[oJ s,oH oO 0] w fun e w'=>e=oQ (.tuple #[oH oO ((Bt (s.data.toList.drop 1)+2:Nat):Int),.nilIface])/\w=w':=by
 obtain⟨o,i,p,C⟩:=h;have l:=Hd (O9 s t 1 nX w);generalize Bt (s.data.toList.drop 1)=k at *;have j:s[1+k]=39:=by rw[get_some s _ o]at i;exact Option.some.inj i
 have I:((s[1+k].toNat:Int) != 39)=false:=by rw[j];rfl
 have J:((1:Int)+(k:Int)==1)=false:=bN.2 nX;clear i j p;go_enter Tryz.func140,Tryz.ntmps140
 go_wp2_with fail
 refine l.mono ?_;rintro e w' ⟨rfl,rfl⟩;go_wp2
 go_ret2
 exact⟨oC,rfl⟩
def iX(w:oU)(e:Ending)(w':oU):Prop:=∃A,e=oQ (.tuple #[oH oO 0,.iface 171 (.pointer (oM A))])/\Below w w w'
def gN(s:ByteArray)(P:s.size<=4611686018427387904)(h0:0<s.size)(h:¬KS s)(w:oU):() 140 #[oJ s,oH oO 0] w (iX w):=by
 have p:=Hd (O9 s P 1 nX w);have U:Bt (s.data.toList.drop 1)<s.size:=by have:=R8 (s.data.toList.drop 1);simp only[List.length_drop,Iz]at this;omega
 unfold KS at h;generalize Bt (s.data.toList.drop 1)=k at *;by_cases I:1+k<s.size
 ·by_cases o:s[1+k]=39
  ·have J:((s[1+k].toNat:Int) != 39)=false:=by rw[o];rfl
   by_cases t:k=0
   ·subst t
    clear h o;go_enter Tryz.func140,Tryz.ntmps140
    go_wp2_with fail
    refine p.mono ?_;rintro e l ⟨rfl,rfl⟩;go_wp2_with (go_at_call 64;refine(Nn _ nY _ _).mono ?_;rintro e l ⟨rfl,i⟩;have j:=Hd i;clear i)
    go_ret2
    exact⟨_,rfl,j⟩
   ·have T:((1:Int)+(k:Int)==1)=false:=bN.2 nX
    have C:24<=1+k:=by
     by_cases C:1+k<24
     ·exfalso
      exact h ⟨I,by rw[get_some s _ I,o],t,C⟩
     ·omega
    have R:24<=(1:Int)+(k:Int):=by omega
    clear h o t C;go_enter Tryz.func140,Tryz.ntmps140
    go_wp2_with fail
    refine p.mono ?_;rintro e l ⟨rfl,rfl⟩;go_wp2_with (go_at_call 64;refine(Nn _ nY _ _).mono ?_;rintro e l ⟨rfl,i⟩;have j:=Hd i;clear i)
    go_ret2
    exact⟨_,rfl,j⟩
  ·have J:((s[1+k].toNat:Int) != 39)=true:=by
    rw[bne_iff_ne];intro e;exact o (UInt8.toNat_inj.1 (by show s[1+k].toNat=39;omega))
   clear h o;go_enter Tryz.func140,Tryz.ntmps140
   go_wp2_with fail
   refine p.mono ?_;rintro e l ⟨rfl,rfl⟩;go_wp2_with (go_at_call 64;refine(Nn _ nY _ _).mono ?_;rintro e l ⟨rfl,i⟩;have j:=Hd i;clear i)
   go_ret2
   exact⟨_,rfl,j⟩
 ·clear h
  go_enter Tryz.func140,Tryz.ntmps140
  go_wp2_with fail
  refine p.mono ?_;rintro e l ⟨rfl,rfl⟩;go_wp2_with (go_at_call 64;refine(Nn _ nY _ _).mono ?_;rintro e l ⟨rfl,i⟩;have j:=Hd i;clear i)
  go_ret2
  exact⟨_,rfl,j⟩
def VR(s:ByteArray):s.toList=s.data.toList:=ByteArray.toList_eq s
def CO(l:List UInt8):Bool:=l.head?==oM 39&&(decide (1+Bt (l.drop 1)<l.length)&&(l[1+Bt (l.drop 1)]?==oM 39)&&(Bt (l.drop 1) != 0)&&decide (1+Bt (l.drop 1)<24))&&(Bt (l.drop 1)+2==l.length)
def lD{s:ByteArray}(h:KS s)(h0:s.data.toList.head?=oM 39):CO s.data.toList=(Bt (s.data.toList.drop 1)+2==s.size):=by obtain⟨i,j,l,o⟩:=h;unfold CO;rw[h0,j,Iz,decide_eq_true i,decide_eq_true o,show (Bt (s.data.toList.drop 1) != 0)=true from bne_iff_ne.2 l];rfl
theorem Zu{s:ByteArray}(h:¬KS s):CO s.data.toList=false:=by
 cases i:CO s.data.toList with
 | false=>rfl
 | true=>exfalso;unfold CO at i;simp only[Bool.and_eq_true,decide_eq_true_eq,beq_iff_eq,bne_iff_ne,ne_eq,Iz]at i;exact h ⟨i.1.2.1.1.1,i.1.2.1.1.2,i.1.2.1.2,i.1.2.2⟩
def iB{l:List UInt8}(h:l.head?≠oM 39):CO l=false:=by unfold CO;rw[bN.2 h];rfl
def SF(s:ByteArray)(h:0<s.size):s.data.toList.head?=oM s[0]:=by rw[List.head?_eq_getElem?];exact get_some s 0 h
def gG{s:ByteArray}(h:s.size=0):s=⟨#[]⟩:=by have:s.data.toList=[]:=List.eq_nil_of_length_eq_zero (by rw[Iz];exact h);exact ByteArray.ext (Array.ext' this)
def VT(s:ByteArray)(C:s.size<=4611686018427387904)(w:oU):() 166 #[oJ s] w fun e w'=>e=oQ (oK (CO s.data.toList))/\Below w w w':=by
 by_cases h0:s.size=0
 ·obtain rfl:=gG h0
  go_enter Tryz.func166,Tryz.ntmps166
  go_wp2;go_ret;exact⟨rfl,Below.refl _ _⟩
 have p:0<s.size:=by omega
 have P:s.toList.isEmpty=false:=by rw[VR,L0];exact decide_eq_false h0
 by_cases i:s[0]=39
 ·have J:((s[0].toNat:Int) != 39)=false:=by rw[i];rfl
  have o:s.data.toList.head?=oM 39:=by rw[SF s p,i]
  by_cases j:KS s
  ·have l:=Hd (ZM s C j w)
   rw[lD j o];clear j o i h0;generalize Bt (s.data.toList.drop 1)=k at *;go_enter Tryz.func166,Tryz.ntmps166
   go_wp2_with fail
   refine l.mono ?_;rintro e w' ⟨rfl,rfl⟩;go_wp2;go_ret;refine⟨Cr ?_,Below.refl _ _⟩;rw[Bool.eq_iff_iff,beq_iff_eq,beq_iff_eq];omega
  ·have l:=Hd (gN s C p j w)
   rw[Zu j];clear j o i h0;go_enter Tryz.func166,Tryz.ntmps166
   go_wp2_with fail
   refine l.mono ?_;rintro e w' ⟨A,rfl,t⟩;have I:=Hd t;clear t;go_wp2;go_ret;exact⟨rfl,I⟩
 ·have J:((s[0].toNat:Int) != 39)=true:=by
   rw[bne_iff_ne];intro e;exact i (UInt8.toNat_inj.1 (by show s[0].toNat=39;omega))
  rw[iB (by rw[SF s p];simpa using i)];clear i h0;go_enter Tryz.func166,Tryz.ntmps166
  go_wp2;go_ret;exact⟨rfl,Below.refl _ _⟩
structure Ru where
 left:Int
 v:oV
 right:List Int
structure Gm where
 T:List ByteArray
 N:List ByteArray
 s:Int
 R:List Ru
def Lq(s:ByteArray):Bool:=CS s.data.toList
def Kk(s:ByteArray):Bool:=CS s.data.toList||CO s.data.toList
def IQ(r:Ru):Bool:=decide (r.right.length<=8)
def FM(a b:Ru):Bool:=a.left==b.left&&a.right==b.right
def nz(l:List Int):Prop:=∀(i:Nat) (x y:Int),l[i]?=oM x->l[i+1]?=oM y->x<=y
def Un(l:List Ru):Prop:=∀(i j:Nat) (x r:Ru),j<i->l[j]?=oM x->l[i]?=oM r->FM x r=false
namespace Gm
def term(g:Gm)(s:Int):Bool:=decide (1<=s)&&decide (s<=(g.T.length:Int))
def BW(g:Gm)(s:Int):Bool:=decide ((g.T.length:Int)<s)&&decide (s<=(g.T.length:Int)+(g.N.length:Int))
def sym(g:Gm)(s:Int):Bool:=g.term s||g.BW s
def Cm(g:Gm):Bool:=(decide (g.T.length<=120)&&decide (g.N.length<=120))&&(decide (g.R.length<=300)&&g.R.all IQ)
def form(g:Gm):Bool:=g.T.all Kk&&g.N.all Lq
def once(g:Gm):Bool:=decide ((g.T++g.N).Nodup)
def Hq(g:Gm)(r:Ru):Bool:=g.BW r.left&&r.right.all g.sym
def known(g:Gm):Bool:=g.BW g.s&&g.R.all g.Hq
open Classical in
noncomputable def Hr (g:Gm):Bool:=decide (Un g.R)
def left(k:Int)(r:Ru):Bool:=r.left==k
def each(g:Gm):Bool:=(List.range g.N.length).all fun i=>g.R.any (left ((g.T.length:Int)+1+i))
noncomputable def check (g:Gm):Int:=if g.Cm then(if g.form then(if g.once then(if g.known then(if g.Hr then(if g.each then 0 else 9) else 8) else 1) else 8) else 10) else 7
def first(g:Gm)(i:Nat):Nat:=g.R.findIdx (left ((g.T.length:Int)+1+i))
def Ow(g:Gm):List Int:=(List.range g.N.length).map fun i=>(g.first i:Int)
open Classical in
noncomputable def ordered (g:Gm):Bool:=decide (nz g.Ow)
def name(g:Gm)(s:Int):ByteArray:=if s=0 then⟨#[36]⟩ else if s<1\/(g.T.length:Int)+(g.N.length:Int)<s then⟨#[]⟩ else(g.T++g.N).getD (s-1).toNat ⟨#[]⟩
def small(g:Gm):Prop:=(∀s∈g.T,s.size<=1048576)/\(∀s∈g.N,s.size<=1048576)/\g.T.length<=1048576/\g.N.length<=1048576/\g.R.length<=1048576/\∀r∈g.R,r.right.length<=1048576
end Gm
def str(l:List UInt8):ByteArray:=⟨l.toArray⟩
def Yn(a:ByteArray):str a.data.toList=a:=by unfold str;simp
def LK(l:List UInt8):(str l).data.toList=l:=by unfold str;simp
def Lr(l:List UInt8):(str l).size=l.length:=by unfold str;rfl
def Cp(s:ByteArray):oV:=oJ s
def B4(n:Int):oV:=oH oO n
def D3(r:Ru):oV:=.agg #[r.left,r.v]
def BI(w:oU)(b:Bool)(e:Ending)(w':oU):Prop:=e=oQ (oK b)/\Below w w w'
structure BH{α:Type}(E:α->oV)(w:oU)(v:oV)(l:List α):Prop where
 F5:∃A c,v=oG A l.length c/\∀k x,l[k]?=oM x->∃b off,A=oM ⟨b,off,oN⟩/\b<w.heap.size/\w.cell? ⟨b,off+k,oN⟩=oM (E x)
 short:l.length<=4611686018427387904
 room:∀A n c,v=oG A n c->n<=c/\(A=oN->c=0)
def BH.later{o:Type}{E:o->oV}{w:oU}{v:oV}{l:List o}(h:BH E w v l)(i:Below w w w'):BH E w' v l:=by obtain⟨⟨A,c,P,t⟩,J,I⟩:=h;refine⟨⟨A,c,P,fun k x R=>?_⟩,J,I⟩;obtain⟨b,off,p,j,C⟩:=t k x R;exact⟨b,off,p,A0 j i.size,(i.cell (p:=(b,off+k)) j).trans C⟩
def BH.nil{E:i->oV}(w:oU)(A:Option Addr)(c:Nat)(h:A=oN->c=0):BH E w (oG A 0 c) []:=⟨⟨A,c,rfl,fun k x h=>by simp at h⟩,oA,fun _ _ _ e=>by cases e;exact⟨AX _,h⟩⟩
def BH.take{p:Type}{E:p->oV}{w:oU}{n c:Nat}{l:List p}(h:BH E w (oG A n c) l)(k:Nat)(I:k<=n)(j:Nat)(C:k<=j/\(A=oN->j=0)):BH E w (oG A k j) (l.take k):=by
 obtain⟨⟨P,c1,J,t⟩,R⟩:=h;cases J
 refine⟨⟨A,j,by rw[List.length_take,Nat.min_eq_left I],fun i x o=>?_⟩,by rw[List.length_take];omega,fun _ _ _ e=>by cases e;exact C⟩;rw[List.getElem?_take]at o;split at o
 ·exact t i x o
 ·cases o
theorem BH.src{C:Type}{E:C->oV}{w:oU}{v:oV}{l:List C}(h:BH E w v l)(J:∀x,(E x).oneCell'=true):Be w v l.length 1 (l.map E):=by
 obtain⟨⟨A,c,p,t⟩,hs,U⟩:=h;refine⟨fun u i=>?_,?_⟩
 ·obtain⟨x,_,rfl⟩:=List.mem_map.1 i
  exact J x
 ·cases A with
  | none=>
   left;have T:l=[]:=by
    cases l with
    | nil=>rfl
    | cons x r=>obtain⟨b,off,o,_⟩:=t 0 x rfl;cases o
   have h0:=(U _ _ _ p).2 rfl;subst T h0;exact⟨p,rfl,rfl⟩
  | some I=>
   right;refine⟨I,c,p,oA,fun j u i=>?_⟩;rw[pG]at i;obtain⟨x,hx,rfl⟩:=Option.map_eq_some_iff.1 i;obtain⟨b,off,o,_,R⟩:=t j x hx;cases o
   have P:((b,off):Addr).add j=(b,off+j):=by
    unfold Addr.add;split
    ·rename_i h0;simp_all
    ·rfl
   rw[P];exact R
structure Fe(w:oU)(v:oV)(l:List Ru):Prop where
 F5:∃A c,v=oG A l.length c/\∀k r,l[k]?=oM r->∃b off,A=oM ⟨b,off,oN⟩/\b<w.heap.size/\w.cell? ⟨b,off+k*2,oN⟩=oM (oH oO r.left)/\w.cell? ⟨b,off+k*2+1,oN⟩=oM r.v/\BH B4 w r.v r.right
 short:l.length<=4611686018427387904
 room:∀A n c,v=oG A n c->n<=c/\(A=oN->c=0)
variable{l:List Ru}
def Fe.later{w:oU}{v:oV}(h:Fe w v l)(i:Below w w w'):Fe w' v l:=by obtain⟨⟨A,c,T,I⟩,R,P⟩:=h;refine⟨⟨A,c,T,fun k r J=>?_⟩,R,P⟩;obtain⟨b,off,C,j,o,p,t⟩:=I k r J;exact⟨b,off,C,A0 j i.size,(i.cell (p:=(b,off+k*2)) j).trans o,(i.cell (p:=(b,off+k*2+1)) j).trans p,t.later i⟩
def Fe.take{w:oU}{n c:Nat}(h:Fe w (oG A n c) l)(k:Nat)(C:k<=n)(j:Nat)(t:k<=j/\(A=oN->j=0)):Fe w (oG A k j) (l.take k):=by
 obtain⟨⟨J,c1,I,p⟩,P⟩:=h;cases I
 refine⟨⟨A,j,by rw[List.length_take,Nat.min_eq_left C],fun i x o=>?_⟩,by rw[List.length_take];omega,fun _ _ _ e=>by cases e;exact t⟩;rw[List.getElem?_take]at o;split at o
 ·exact p i x o
 ·cases o
def Fe.mem{w:oU}{v:oV}(h:Fe w v l){r:Ru}(t:r∈l):BH B4 w r.v r.right:=by obtain⟨⟨A,c,I,j⟩,C⟩:=h;obtain⟨k,p,o⟩:=List.mem_iff_getElem.1 t;exact(j k r (by rw[<-o];exact eG p)).elim fun _ ⟨_,_,_,_,_,i⟩=>i
structure Ev(w:oU)(v:oV)(g:Gm):Prop where
 F5:∃vT vN vR,v=.agg #[vT,vN,vR,g.s]/\BH Cp w vT g.T/\BH Cp w vN g.N/\Fe w vR g.R
 small:g.small
def Ev.later{w:oU}{v:oV}{g:Gm}(h:Ev w v g)(i:Below w w w'):Ev w' v g:=by obtain⟨⟨J,C,I,t,j,l,o⟩,p⟩:=h;exact⟨⟨J,C,I,t,j.later i,l.later i,o.later i⟩,p⟩
structure TC(w:oU)(v:oV)(r:Ru):Prop where
 F5:v=D3 r
 right:BH B4 w r.v r.right
def G3{i:Type}(p:i->Bool)(l:List i):Int:=if l.any p then(l.findIdx p:Nat) else -1
def Ob{p:i->Bool}{l:List i}{k:Nat}{x:i}(J:l[k]?=oM x)(t:p x=true)(C:∀j y,j<k->l[j]?=oM y->p y=false):G3 p l=k:=by obtain⟨o,rfl⟩:=sG.1 J;unfold G3;rw[if_pos (List.any_eq_true.2 ⟨_,List.getElem_mem o,t⟩)];congr 1;rw[List.findIdx_eq o];exact⟨t,fun j I=>C j _ I (eG nX)⟩
def Oc{t:Type}{p:t->Bool}{l:List t}(C:∀j y,j<l.length->l[j]?=oM y->p y=false):G3 p l = -1:=by unfold G3;rw[if_neg];rw[List.any_eq_true];rintro⟨x,J,o⟩;obtain⟨k,i,I⟩:=List.mem_iff_getElem.1 J;rw[C k x i (by rw[<-I];exact eG i)]at o;cases o
theorem Pt(p:i->Bool)(l:List i):decide (0<=G3 p l)=l.any p:=by
 unfold G3;cases h:l.any p with
 | true=>rw[if_pos rfl,decide_eq_true_eq];omega
 | false=>rw[if_neg oA,decide_eq_false_iff_not];omega
def AG(w:oU)(o:Obj):Below w w (w.alloc o):=(Below.refl _ w).alloc (Ay _) o
def Fy{w:oU}{o:Obj}(h:Below (w.alloc o).heap.size (w.alloc o) w'):Below w w w':=
 ((Below.refl _ w).alloc (Ay _) o).trans (h.mono oA)
def Pp(p:i->Bool)(l:List i):(!l.any fun x=>!p x)=l.all p:=by rw[List.all_eq_not_any_not]
