/- . -/
import Derived.Shelf.Strings.Search1
import Derived.Shelf.Strings.Search2
import Derived.Shelf.Strings.Search3
import Derived.Shelf.LaysM
import Derived.Shelf.Strings.Shaped
import Derived.Shelf.Strings.Prefix
import Derived.Test.YtiljpamcmmeflaaGreatDoorXac
import Derived.Lib.IndexMore
import Derived.Deep.LoopGhost
import Derived.BigRegion
import Derived.RegionDies
import Derived.Maps.Own
import Derived.Maps.OwnOps
import Derived.Maps.OwnSet
import Derived.Maps.Views
import Derived.StringKeys
set_option linter.all false
set_option maxRecDepth 100000
set_option maxHeartbeats 16000000
namespace Go.Proofs
open Go.Shelf
def Tryz.iE:Go.Shelf.Ren:=⟨fun|217=>130|266=>173|n=>n,fun|9=>9|5=>5|3=>3|n=>n,fun|n=>n⟩
def Tryz.fY:Go.Proofs.Lays.n217 Tryz.prog Tryz.iE:={
 mixed:=by kernel_rfl
 f217:=Tryz.func130.trans (congrArg some (by kernel_rfl))
 f266:=Tryz.func173.trans (congrArg some (by kernel_rfl))
 t3:=Tryz.underlying3
 a3:=Tryz.isAgg3
 z3:=Tryz.sizeOf3
 v3:=Tryz.zeroValue3
 t5:=Tryz.underlying5
 a5:=Tryz.isAgg5
 z5:=Tryz.sizeOf5
 v5:=Tryz.zeroValue5
 t9:=Tryz.underlying9
 a9:=Tryz.isAgg9
 z9:=Tryz.sizeOf9
 v9:=Tryz.zeroValue9}
open Go.RowKit Go.Lib in
def Tryz.stringslite_IndexByte(s:ByteArray)(c:Int)(w:World) :
 Calls Tryz.prog 130 #[.string s,.int .u8 c] w fun e w'=>e=.returned (.int .i64 (Lib.indexByte s.data.toList c.toNat.toUInt8))/\w'=w:=Any.stringslite_IndexByte Tryz.fY s c w
def Tryz.cU:Go.Shelf.Ren:=⟨fun|143=>201|219=>223|217=>130|225=>239|224=>240|267=>241|266=>173|314=>255|n=>n,fun|9=>9|3=>3|4=>4|5=>5|46=>320|146=>356|51=>354|n=>n,fun|1=>2|n=>n⟩
def Tryz.bV:Go.Proofs.Lays.n143 Tryz.prog Tryz.cU:={
 mixed:=by kernel_rfl
 f143:=Tryz.func201.trans (congrArg some (by kernel_rfl))
 f217:=Tryz.func130.trans (congrArg some (by kernel_rfl))
 f219:=Tryz.func223.trans (congrArg some (by kernel_rfl))
 f224:=Tryz.func240.trans (congrArg some (by kernel_rfl))
 f225:=Tryz.func239.trans (congrArg some (by kernel_rfl))
 f266:=Tryz.func173.trans (congrArg some (by kernel_rfl))
 f267:=Tryz.func241.trans (congrArg some (by kernel_rfl))
 f314:=Tryz.func255.trans (congrArg some (by kernel_rfl))
 t3:=Tryz.underlying3
 a3:=Tryz.isAgg3
 z3:=Tryz.sizeOf3
 v3:=Tryz.zeroValue3
 t4:=Tryz.underlying4
 a4:=Tryz.isAgg4
 z4:=Tryz.sizeOf4
 v4:=Tryz.zeroValue4
 t5:=Tryz.underlying5
 a5:=Tryz.isAgg5
 z5:=Tryz.sizeOf5
 v5:=Tryz.zeroValue5
 t9:=Tryz.underlying9
 a9:=Tryz.isAgg9
 z9:=Tryz.sizeOf9
 v9:=Tryz.zeroValue9
 t46:=Tryz.underlying320
 a46:=Tryz.isAgg320
 z46:=Tryz.sizeOf320
 v46:=Tryz.zeroValue320
 t51:=Tryz.underlying354
 a51:=Tryz.isAgg354
 z51:=Tryz.sizeOf354
 v51:=Tryz.zeroValue354
 t146:=Tryz.underlying356
 a146:=Tryz.isAgg356
 z146:=Tryz.sizeOf356
 v146:=Tryz.zeroValue356
 g1:=by kernel_rfl}
open Go.RowKit Go.Lib in
def Tryz.strings_Index(s sub:ByteArray)(m:Int)(w:World)(hs:s.size<4294967281)(hm:w.cell? ⟨2,0,none⟩=some (.int .i64 m)) :
 Calls Tryz.prog 201 #[.string s,.string sub] w fun e w'=>e=.returned (.int .i64 (Lib.index s.data.toList sub.data.toList))/\w'=w:=Any.strings_Index Tryz.bV s sub m w hs hm
def Tryz.V4:Go.Shelf.Ren:=⟨fun|99=>200|206=>222|n=>n,fun|9=>9|4=>4|3=>3|n=>n,fun|n=>n⟩
def Tryz.XA:Go.Proofs.Lays.n99 Tryz.prog Tryz.V4:={
 mixed:=by kernel_rfl
 f99:=Tryz.func200.trans (congrArg some (by kernel_rfl))
 f206:=Tryz.func222.trans (congrArg some (by kernel_rfl))
 t3:=Tryz.underlying3
 a3:=Tryz.isAgg3
 z3:=Tryz.sizeOf3
 v3:=Tryz.zeroValue3
 t4:=Tryz.underlying4
 a4:=Tryz.isAgg4
 z4:=Tryz.sizeOf4
 v4:=Tryz.zeroValue4
 t9:=Tryz.underlying9
 a9:=Tryz.isAgg9
 z9:=Tryz.sizeOf9
 v9:=Tryz.zeroValue9}
open Go.RowKit Go.Lib in
def Tryz.strings_HasPrefix(s p:ByteArray)(w:World) :
 Calls Tryz.prog 200 #[.string s,.string p] w fun e w'=>e=.returned (.bool (Lib.hasPrefix s.data.toList p.data.toList))/\w'=w:=Any.strings_HasPrefix Tryz.XA s p w
end Go.Proofs
namespace Go.Proofs.YtiljpamcmmeflaaGreatDoor
open Go.RowKit
open Value renaming slice→nC,int→nE,string→nH,bool→nI
open Option renaming some→nJ,none→nK
open IntKind renaming i64→nM
open Obj renaming cells→nO
open Ending renaming returned→nP
open World renaming cell?→nQ
open Go renaming World→nS,Value→nU
variable{w' w2:nS}{e:TypeId}{c2 n size sz:Nat}{C P R i j:nU}{o:Obj}{T:List TypeId}{X:Nat->Prop}{A2:Option Addr}{xs:List nU}
def MJ{p:UInt8->Bool}(c:UInt8)(l:List UInt8):Cd p (c::l)=if p c then Cd p l+1 else 0:=by unfold Cd;rw[List.takeWhile_cons];split<;>simp
def MP(p:UInt8->Bool)(l:List UInt8):Cd p l<=l.length:=(List.takeWhile_sublist p).length_le
theorem WN(c:UInt8)(w:nS):() 158 #[nE .u8 c.toNat] w fun e w'=>e=nP (nI (Cw c))/\w=w':=by
 have i:=Hd (Oo c w);unfold Cw;generalize B9 c=k at *;go_enter Tryz.func158,Tryz.ntmps158
 cases l:(k==4) with
 | true=>
  have p:((k:Int)==4)=true:=by rw[beq_iff_eq]at l ⊢;omega
  go_wp2_with (go_at_call 60;refine i.mono ?_;rintro e w' ⟨rfl,rfl⟩)
  go_ret;exact⟨rfl,rfl⟩
 | false=>
  have p:((k:Int)==4)=false:=by rw[bN]at l ⊢;omega
  have j:((k:Int)==3)=(k==3):=by rw[Bool.eq_iff_iff,beq_iff_eq,beq_iff_eq];omega
  have o:=Hd j;clear j;go_wp2_with (go_at_call 60;refine i.mono ?_;rintro e w' ⟨rfl,rfl⟩)
  go_ret;refine⟨?_,rfl⟩;rw[<-o.out];rfl
def jB(n:Int):Bool:=decide (0<=Lib.indexByte [32,9,10,13] n.toNat.toUInt8)
def gB:Lk.all (fun c=>jB c.toNat==FW c)=true:=by kernel_rfl
def Wc(c:UInt8):decide (0<=Lib.indexByte [32,9,10,13] (c.toNat:Int).toNat.toUInt8)=FW c:=beq_iff_eq.1 (List.all_eq_true.1 gB c (Mr c))
def aA(s:ByteArray)(c:Int)(w:nS):() 91 #[nH s,nE .u8 c] w fun e w'=>e=nP (nE nM (Lib.indexByte s.data.toList c.toNat.toUInt8))/\w'=w:=by
 have i:=Hd (Tryz.stringslite_IndexByte s c w);go_enter Tryz.func91,Tryz.ntmps91
 go_wp2_with (go_at_call 130;refine i.mono ?_;rintro e w' ⟨rfl,rfl⟩)
 go_ret;exact⟨rfl,rfl⟩
def SO(c:UInt8)(w:nS):() 154 #[nE .u8 c.toNat] w fun e w'=>e=nP (nI (FW c))/\w=w':=by
 have i:=Hd (aA ⟨#[32,9,10,13]⟩ c.toNat w);have j:=Hd (Wc c);generalize Lib.indexByte (⟨#[32,9,10,13]⟩:ByteArray).data.toList (c.toNat:Int).toNat.toUInt8=k at *;go_enter Tryz.func154,Tryz.ntmps154
 go_wp2_with (go_at_call 91;refine i.mono ?_;rintro e w' ⟨rfl,rfl⟩)
 go_ret;refine⟨?_,rfl⟩;rw[<-j.out];rfl
def ZK(c:UInt8)(w:nS):() 159 #[nE .u8 c.toNat] w fun e w'=>e=nP (nE nM (Jg c))/\w=w':=by
 have p:(c=58)=((c.toNat:Int)=58):=by rw[<-UInt8.toNat_inj];show (c.toNat=58)=_;rw[eq_iff_iff];omega
 have o:(c=124)=((c.toNat:Int)=124):=by rw[<-UInt8.toNat_inj];show (c.toNat=124)=_;rw[eq_iff_iff];omega
 have t:(c=59)=((c.toNat:Int)=59):=by rw[<-UInt8.toNat_inj];show (c.toNat=59)=_;rw[eq_iff_iff];omega
 unfold Jg;simp only[p,o,t];clear p o t;generalize (c.toNat:Int)=n;by_cases i:n=58
 ·subst i
  go_enter Tryz.func159,Tryz.ntmps159
  go_wp2;go_ret;exact⟨rfl,rfl⟩
 by_cases j:n=124
 ·subst j
  go_enter Tryz.func159,Tryz.ntmps159
  go_wp2;go_ret;exact⟨rfl,rfl⟩
 by_cases l:n=59
 ·subst l
  go_enter Tryz.func159,Tryz.ntmps159
  go_wp2;go_ret;exact⟨rfl,rfl⟩
 rw[if_neg i,if_neg j,if_neg l];have C:(n==58)=false:=bN.2 i;have I:(n==124)=false:=bN.2 j;have J:(n==59)=false:=bN.2 l;clear i j l;go_enter Tryz.func159,Tryz.ntmps159
 go_wp2;go_ret;exact⟨rfl,rfl⟩
def TD(s:ByteArray)(p k:Nat):Prop:=p+k<=s.size/\Cd FW (s.data.toList.drop p)=k+Cd FW (s.data.toList.drop (p+k))
def WJ(s:ByteArray)(R:s.size<=4611686018427387904)(p:Nat)(P:p<=s.size)(w:nS):() 155 #[nH s,p,.func (.func 154) #[] #[]] w fun e w'=>e=nP (nE nM (Cd FW (s.data.toList.drop p)))/\w=w':=by
 go_enter Tryz.func155,Tryz.ntmps155
 go_wp2
 go_loop [7] (fun n=>∃k:Nat,p+k<=s.size/\n=nE nM k/\Hid (TD s p k)) (fun n=>s.size-(intOf n).toNat)
 case atStart=>exact⟨0,mR,rfl,Hd ⟨mR,mV⟩⟩
 case round=>
  obtain⟨k,J,rfl,t⟩:=hrel;by_cases I:p+k<s.size
  ·have C:=Hd (Je s (p+k) I)
   have o:=Hd (SO s[p+k] w);cases j:FW s[p+k] with
   | true=>
    rw[j]at o;have l:Hid (TD s p (k+1)):=Hd ⟨mR,by have i:=t.2;rw[C.out,MJ,if_pos j]at i;rw[i];show k+(Cd FW (s.data.toList.drop (p+k+1))+1)=k+1+Cd FW (s.data.toList.drop (p+(k+1)));rw[Nat.add_assoc p k 1];omega⟩
    clear j;go_wp2_with (go_at_call 154;refine o.mono ?_;rintro e w' ⟨rfl,rfl⟩)
    go_round
    case rel=>exact⟨k+1,mR,mY,l⟩
    case measure=>simp[intOf];omega
   | false=>
    rw[j]at o;have l:Hid (Cd FW (s.data.toList.drop p)=k):=Hd (by have i:=t.2;rw[C.out,MJ,j]at i;simpa using i)
    clear j;go_wp2_with (go_at_call 154;refine o.mono ?_;rintro e w' ⟨rfl,rfl⟩)
    go_ret;exact⟨JJ l.symm,rfl⟩
  ·have l:Hid (Cd FW (s.data.toList.drop p)=k):=Hd (by
    have i:=t.2;rw[show s.data.toList.drop (p+k)=[] from List.drop_of_length_le mX]at i;simpa [Cd] using i)
   go_wp2;go_ret;exact⟨JJ l.symm,rfl⟩
def Tv(s:ByteArray)(p k:Nat):Prop:=p+k<=s.size/\Cd Cw (s.data.toList.drop p)=k+Cd Cw (s.data.toList.drop (p+k))
def Qc(s:ByteArray)(R:s.size<=4611686018427387904)(p:Nat)(P:p<=s.size)(w:nS):() 155 #[nH s,p,.func (.func 158) #[] #[]] w fun e w'=>e=nP (nE nM (Cd Cw (s.data.toList.drop p)))/\w=w':=by
 go_enter Tryz.func155,Tryz.ntmps155
 go_wp2
 go_loop [7] (fun n=>∃k:Nat,p+k<=s.size/\n=nE nM k/\Hid (Tv s p k)) (fun n=>s.size-(intOf n).toNat)
 case atStart=>exact⟨0,mR,rfl,Hd ⟨mR,mV⟩⟩
 case round=>
  obtain⟨k,J,rfl,t⟩:=hrel;by_cases I:p+k<s.size
  ·have C:=Hd (Je s (p+k) I)
   have o:=Hd (WN s[p+k] w);cases j:Cw s[p+k] with
   | true=>
    rw[j]at o;have l:Hid (Tv s p (k+1)):=Hd ⟨mR,by have i:=t.2;rw[C.out,MJ,if_pos j]at i;rw[i];show k+(Cd Cw (s.data.toList.drop (p+k+1))+1)=k+1+Cd Cw (s.data.toList.drop (p+(k+1)));rw[Nat.add_assoc p k 1];omega⟩
    clear j;go_wp2_with (go_at_call 158;refine o.mono ?_;rintro e w' ⟨rfl,rfl⟩)
    go_round
    case rel=>exact⟨k+1,mR,mY,l⟩
    case measure=>simp[intOf];omega
   | false=>
    rw[j]at o;have l:Hid (Cd Cw (s.data.toList.drop p)=k):=Hd (by have i:=t.2;rw[C.out,MJ,j]at i;simpa using i)
    clear j;go_wp2_with (go_at_call 158;refine o.mono ?_;rintro e w' ⟨rfl,rfl⟩)
    go_ret;exact⟨JJ l.symm,rfl⟩
  ·have l:Hid (Cd Cw (s.data.toList.drop p)=k):=Hd (by
    have i:=t.2;rw[show s.data.toList.drop (p+k)=[] from List.drop_of_length_le mX]at i;simpa [Cd] using i)
   go_wp2;go_ret;exact⟨JJ l.symm,rfl⟩
def GI(k:Int)(i:(k==0)=false)(p:Int)(w:nS):() 85 #[k,p] w fun e w'=>e=nP (.iface 217 (w,0))/\w'=w.alloc (nO #[k,p] 219):=by
 go_enter Tryz.func85,Tryz.ntmps85
 go_wp2;go_ret;exact⟨rfl,rfl⟩
def JQ(w:nS)(v:nU)(f:Bn):Prop:=∃b,v=.iface 217 (.pointer (nJ ⟨b,0,nK⟩))/\Ah w b 219 #[f.1,f.2]
def JQ.new(w:nS)(e p:Nat):JQ (w.alloc (nO #[e,p] 219)) (.iface 217 (w,0)) (e,p):=⟨_,rfl,Ah.new _ _ _⟩
def Eu(w:nS)(r:Except Bn (Nat×Nat))(e:Ending)(w':nS):Prop:=
 Below w w w'/\match r with
 | .ok (k,n)=>e=nP (.tuple #[n,.nilIface])
 | .error f=>∃v,e=nP (.tuple #[nE nM 0,v])/\JQ w' v f
def Eu.err(w:nS)(e p:Nat):Eu w (.error (e,p)) (nP (.tuple #[nE nM 0,.iface 217 (w,0)])) (w.alloc (nO #[e,p] 219)):=
 ⟨AE _ _,_,rfl,.new _ _ _⟩
def Eu.KT(w:nS)(e p:Nat)(q:Int)(h:q=p):Eu w (.error (e,p)) (nP (.tuple #[nE nM 0,.iface 217 (w,0)])) (w.alloc (nO #[e,q] 219)):=by subst h;exact .err w e p
def Eu.IC(w:nS)(k n:Nat)(q:Int)(h:q=n):Eu w (.ok (k,n)) (nP (.tuple #[q,.nilIface])) w:=by subst h;exact⟨Below.refl _ _,rfl⟩
def fS(s:ByteArray)(p k:Nat)(h:p+(1+k)<s.size):(s.data.toList.drop (p+1))[k]?=nJ s[p+(1+k)]:=by rw[List.getElem?_drop,Nat.add_assoc];exact get_some s _ h
def Z3(s:ByteArray)(hs:s.size<=4611686018427387904)(p:Nat)(hp:p<s.size)(w:nS):() 136 #[nH s,p] w (Eu w (J0 s.size p (s.data.toList.drop (p+1)))):=by
 have j:=Hd (O5 s hs (p+1) mR w);have hk:Bs (s.data.toList.drop (p+1))<s.size:=by have:=Qe (s.data.toList.drop (p+1));simp only[List.length_drop,Il]at this;omega
 have I:=fS s p (Bs (s.data.toList.drop (p+1)));unfold J0;generalize Bs (s.data.toList.drop (p+1))=k at *;generalize s.data.toList.drop (p+1)=r at *;have J:(p:Int)+1=((p+1:Nat):Int):=by omega
 rw[<-J]at j;have R:(p:Int)+(1+(k:Int))=((p+1+k:Nat):Int):=by omega
 by_cases t:s.size<=p+1+k
 ·rw[if_pos t]
  have q1:(s.size:Int)<=(p:Int)+(1+(k:Int)):=by omega
  clear I t J R;go_enter Tryz.func136,Tryz.ntmps136
  go_wp2_with fail
  refine j.mono ?_;rintro e i ⟨rfl,rfl⟩;go_wp2_with (go_at_call 85;refine(GI _ rfl _ _).mono ?_;rintro e i ⟨rfl,rfl⟩)
  go_ret2
  exact Eu.err _ _ _
 rw[if_neg t];have a0:p+(1+k)<s.size:=by omega
 have P:=I a0;rw[P];clear I P J R;have q1:¬(s.size:Int)<=(p:Int)+(1+(k:Int)):=by omega
 have q2:(p:Int)+(1+(k:Int))<(s.size:Int):=by omega
 by_cases l:s[p+(1+k)]=39
 ·have U:((s[p+(1+k)].toNat:Int) != 39)=false:=by rw[l];rfl
  rw[l];clear l;by_cases C:k=0
  ·subst C
   rw[if_pos (.inr rfl)];go_enter Tryz.func136,Tryz.ntmps136
   go_wp2_with fail
   refine j.mono ?_;rintro e i ⟨rfl,rfl⟩;go_wp2_with (go_at_call 85;refine(GI _ rfl _ _).mono ?_;rintro e i ⟨rfl,rfl⟩)
   go_ret2
   exact Eu.KT _ 2 (p+1+0) _ mR
  ·rw[if_neg (by rintro(h|h)<;>simp_all)]
   have h7:((1:Int)+(k:Int)==1)=false:=bN.2 mR;by_cases o:24<=1+k
   ·rw[if_pos o]
    have T:24<=(1:Int)+(k:Int):=by omega
    clear C o;go_enter Tryz.func136,Tryz.ntmps136
    go_wp2_with fail
    refine j.mono ?_;rintro e i ⟨rfl,rfl⟩;go_wp2_with (go_at_call 85;refine(GI _ rfl _ _).mono ?_;rintro e i ⟨rfl,rfl⟩)
    go_ret2
    exact Eu.err _ 5 p
   ·rw[if_neg o]
    have T:¬24<=(1:Int)+(k:Int):=by omega
    clear C o;go_enter Tryz.func136,Tryz.ntmps136
    go_wp2_with fail
    refine j.mono ?_;rintro e i ⟨rfl,rfl⟩;go_wp2
    go_ret2
    exact Eu.IC _ 2 (k+2) _ mR
 ·have U:((s[p+(1+k)].toNat:Int) != 39)=true:=by
   rw[bne_iff_ne];intro e;exact l (UInt8.toNat_inj.1 (by show s[p+(1+k)].toNat=39;omega))
  rw[if_pos (.inl (by simpa using l))];clear l;go_enter Tryz.func136,Tryz.ntmps136
  go_wp2_with fail
  refine j.mono ?_;rintro e i ⟨rfl,rfl⟩;go_wp2_with (go_at_call 85;refine(GI _ rfl _ _).mono ?_;rintro e i ⟨rfl,rfl⟩)
  go_ret2
  exact Eu.KT _ 2 (p+1+k) _ mR
def FI(w:nS):Prop:=∃m:Int,nQ w (2,0)=nJ (nE nM m)
def FI.later{w:nS}(h:FI w)(j:Below w w w'):FI w':=by obtain⟨m,i⟩:=h;exact⟨m,(j.cell (p:=⟨2,0,nK⟩) (World.block_lt_of_cell? w _ i)).trans i⟩
def Ot(s:ByteArray)(p:Nat):(s.extract p s.size).data.toList=s.data.toList.drop p:=by rw[Lib.extract_data];exact Dd mV
theorem index_le(sub:List UInt8):∀(l:List UInt8),Lib.index l sub<=l.length
 | []=>by unfold Lib.index;split<;>simp
 | b::l=>by
  have i:=index_le sub l;unfold Lib.index;split
  ·exact Int.natCast_nonneg _
  ·split
   ·simp;omega
   ·rw[List.length_cons];omega
theorem U4(c d:UInt8)(r:List UInt8):Lib.hasPrefix (c::r) [c,d]=(r.head?==nJ d):=by
 unfold Lib.hasPrefix;cases r with
 | nil=>simp[List.isPrefixOf]
 | cons a l=>simp[List.isPrefixOf];exact Bool.beq_comm
def lN(s:ByteArray)(p:Nat):(s.data.toList.drop (p+1)).drop 1=s.data.toList.drop (p+2):=by rw[List.drop_drop]
def aF{s:ByteArray}{p:Nat}{c:UInt8}(h:(s.data.toList.drop (p+1)).head?=nJ c):p+1<s.size:=by rw[List.head?_drop]at h;have:=(sG.1 h).1;simpa using this
def VH(s:ByteArray)(hs:s.size<=8192)(p:Nat)(hp:p<s.size)(P:s[p]=47)(w:nS)(j:FI w):() 156 #[nH s,p] w (Eu w (JH s.size p (s.data.toList.drop (p+1)))):=by
 obtain⟨m,j⟩:=j;have a0:Lib.hasPrefix (s.extract p s.size).data.toList [47,42]=((s.data.toList.drop (p+1)).head?==nJ 42):=by rw[Ot,Je s p hp,P,U4]
 have I:=Tryz.strings_HasPrefix (s.extract p s.size) ⟨#[47,42]⟩ w;rw[a0]at I;have l:=Hd I;clear I a0 P;have T:=lN s p;have t:=@aF s p 42;unfold JH;rw[T];clear T;generalize hr:(s.data.toList.drop (p+1)).head?=a1 at *;clear hr;by_cases o:a1=nJ 42
 ·subst o
  have a3:=t rfl;clear t;have U:(s.extract (p+2) s.size).data.toList=s.data.toList.drop (p+2):=Ot s (p+2);have C:=Tryz.strings_Index (s.extract (p+2) s.size) ⟨#[42,47]⟩ m w (by rw[ByteArray.size_extract];omega) j;rw[U]at C;have J:=Hd C;clear C U j;rw[if_pos rfl];generalize hk:Lib.index (s.data.toList.drop (p+2)) (⟨#[42,47]⟩:ByteArray).data.toList=k at *;have a2:k<=8192 /\ -1<=k:=by rw[<-hk];have h1:=index_le (⟨#[42,47]⟩:ByteArray).data.toList (s.data.toList.drop (p+2));have h2:=Lib.index_ge (s.data.toList.drop (p+2)) (⟨#[42,47]⟩:ByteArray).data.toList;rw[List.length_drop,Il]at h1;omega
  clear hk;by_cases h0:k<0
  ·rw[if_pos h0]
   go_enter Tryz.func156,Tryz.ntmps156
   go_wp2_with (first
    | (go_at_call 200;refine l.mono ?_;rintro e i ⟨rfl,rfl⟩)
    | (go_at_call 201;refine J.mono ?_;rintro e i ⟨rfl,rfl⟩)
    | (go_at_call 85;refine(GI _ rfl _ _).mono ?_;rintro e i ⟨rfl,rfl⟩))
   go_ret2
   exact Eu.err _ 4 _
  ·rw[if_neg h0]
   obtain⟨k1,k2⟩:=a2;go_enter Tryz.func156,Tryz.ntmps156
   go_wp2_with (first
    | (go_at_call 200;refine l.mono ?_;rintro e i ⟨rfl,rfl⟩)
    | (go_at_call 201;refine J.mono ?_;rintro e i ⟨rfl,rfl⟩)
    | (go_at_call 85;refine(GI _ rfl _ _).mono ?_;rintro e i ⟨rfl,rfl⟩))
   go_ret2
   exact Eu.IC _ 0 _ _ mR
 ·rw[if_neg o]
  have R:(a1==nJ 42)=false:=by simpa using o
  rw[R]at l;clear o R t j;go_enter Tryz.func156,Tryz.ntmps156
  go_wp2_with (first
   | (go_at_call 200;refine l.mono ?_;rintro e i ⟨rfl,rfl⟩)
   | (go_at_call 85;refine(GI _ rfl _ _).mono ?_;rintro e i ⟨rfl,rfl⟩))
  go_ret2
  exact Eu.err _ 2 p
def E6(w:nS)(r:Except Bn (Nat×Nat))(e:Ending)(w':nS):Prop:=
 Below w w w'/\match r with
 | .ok (k,n)=>e=nP (.tuple #[k,n,.nilIface])
 | .error f=>∃(k:Int) (v:nU),e=nP (.tuple #[k,nE nM 0,v])/\JQ w' v f
def E6.KT(w:nS)(e p:Nat)(k q:Int)(h:q=p):E6 w (.error (e,p)) (nP (.tuple #[k,nE nM 0,.iface 217 (w,0)])) (w.alloc (nO #[e,q] 219)):=by subst h;exact⟨AE _ _,k,_,rfl,.new _ _ _⟩
def E6.IC(w:nS)(k n:Nat)(q:Int)(h:q=n):E6 w (.ok (k,n)) (nP (.tuple #[k,q,.nilIface])) w:=by subst h;exact⟨Below.refl _ _,rfl⟩
def Rs(s:ByteArray)(p n:Nat):(s.extract p (p+n)).data.toList=(s.data.toList.drop p).take n:=by rw[Lib.extract_data,Nat.add_sub_cancel_left]
def Wk(s:ByteArray)(hs:s.size<=8192)(p:Nat)(hp:p<s.size)(i:s[p]=37)(w:nS):() 157 #[nH s,p] w (E6 w (Kn p (s.data.toList.drop (p+1)))):=by
 have U:Lib.hasPrefix (s.extract p s.size).data.toList [37,37]=((s.data.toList.drop (p+1)).head?==nJ 37):=by rw[Ot,Je s p hp,i,U4]
 have J:=Tryz.strings_HasPrefix (s.extract p s.size) ⟨#[37,37]⟩ w;rw[U]at J;have o:=Hd J;clear J U i;unfold Kn;by_cases i:(s.data.toList.drop (p+1)).head?=nJ 37
 ·rw[if_pos i]
  rw[show ((s.data.toList.drop (p+1)).head?==nJ 37)=true by rw[i];rfl]at o;clear i;go_enter Tryz.func157,Tryz.ntmps157
  go_wp2_with (go_at_call 200;refine o.mono ?_;rintro e l ⟨rfl,rfl⟩)
  go_ret3
  exact E6.IC _ 6 2 _ rfl
 rw[if_neg i];rw[show ((s.data.toList.drop (p+1)).head?==nJ 37)=false by simpa using i]at o;clear i;have t:=Hd (Qc s mR (p+1) mR w);have hk:Cd Cw (s.data.toList.drop (p+1))<=s.size-(p+1):=by have:=MP Cw (s.data.toList.drop (p+1));simp only[List.length_drop,Il]at this;omega
 have I:=Rs s (p+1) (Cd Cw (s.data.toList.drop (p+1)));generalize Cd Cw (s.data.toList.drop (p+1))=k at *;rw[<-I];have C:(p:Int)+1=((p+1:Nat):Int):=by omega
 rw[<-C]at t;have b1:(p:Int)+1+(k:Int)<=(s.size:Int):=by omega
 have b2:p+1+k<=s.size:=by omega
 generalize P:s.extract (p+1) (p+1+k)=x at *;have j:x.toList=x.data.toList:=Lib.toList_data x;cases T:(x.toList==[116,111,107,101,110]) with
 | true=>
  rw[if_pos (by rw[<-j];exact beq_iff_eq.1 T)];subst P;clear j I C;go_enter Tryz.func157,Tryz.ntmps157
  go_wp2_with (first
   | (go_at_call 200;refine o.mono ?_;rintro e l ⟨rfl,rfl⟩)
   | (go_at_call 155;refine t.mono ?_;rintro e l ⟨rfl,rfl⟩))
  go_ret3
  exact E6.IC _ 7 _ _ mR
 | false=>
  rw[if_neg (by rw[<-j];simpa using T)];cases R:(x.toList==[115,116,97,114,116]) with
  | true=>
   rw[if_pos (by rw[<-j];exact beq_iff_eq.1 R)];subst P;clear j I C;go_enter Tryz.func157,Tryz.ntmps157
   go_wp2_with (first
    | (go_at_call 200;refine o.mono ?_;rintro e l ⟨rfl,rfl⟩)
    | (go_at_call 155;refine t.mono ?_;rintro e l ⟨rfl,rfl⟩))
   go_ret3
   exact E6.IC _ 8 _ _ mR
  | false=>
   rw[if_neg (by rw[<-j];simpa using R)];subst P;clear j I C;go_enter Tryz.func157,Tryz.ntmps157
   go_wp2_with (first
    | (go_at_call 200;refine o.mono ?_;rintro e l ⟨rfl,rfl⟩)
    | (go_at_call 155;refine t.mono ?_;rintro e l ⟨rfl,rfl⟩)
    | (go_at_call 85;refine(GI _ rfl _ _).mono ?_;rintro e l ⟨rfl,rfl⟩))
   go_ret3
   exact E6.KT _ 2 p _ _ rfl
theorem Eu.one{w:nS}{r:Except Bn (Nat×Nat)}{e:Ending}(h:Eu w r e w'):∃(n:Int) (v:nU),e=nP (.tuple #[nE nM n,v]) /\
  ∀K:Nat,(∀k n,r=.ok (k,n)->k=K)->E6 w r (nP (.tuple #[nE nM K,nE nM n,v])) w':=by
 obtain⟨i,h⟩:=h;cases r with
 | error f=>obtain⟨v,rfl,l⟩:=h;exact⟨0,v,rfl,fun K _=>⟨i,K,v,rfl,l⟩⟩
 | ok q=>obtain⟨k,n⟩:=q;exact⟨n,.nilIface,h,fun K j=>by obtain rfl:=j k n rfl;exact⟨i,rfl⟩⟩
def Oj(c:UInt8)(n:Nat)(i:n<256):((c.toNat:Int)==(n:Int))=(c==UInt8.ofNat n):=by rw[Bool.eq_iff_iff,beq_iff_eq,beq_iff_eq,<-UInt8.toNat_inj];rw[UInt8.toNat_ofNat',Nat.mod_eq_of_lt i];omega
def aM{p:Nat}{r:List UInt8}:∀k n,J0 sz p r=.ok (k,n)->k=2:=by
 intro k n h;unfold J0 at h;split at h;· cases h
 split at h;· cases h
 split at h;· cases h
 injection h with h;exact(Prod.mk.inj h).1.symm
def eW{p:Nat}{r:List UInt8}:∀k n,JH sz p r=.ok (k,n)->k=0:=by
 intro k n h;unfold JH at h;split at h
 ·split at h
  ·cases h
  ·injection h with h;exact(Prod.mk.inj h).1.symm
 ·cases h
theorem Wb(s:ByteArray)(hs:s.size<=8192)(p:Nat)(hp:p<s.size)(w:nS)(hm:FI w):() 118 #[nH s,p] w (E6 w (GY s.size p (s.data.toList.drop p))):=by
 have j:=Hd (SO s[p] w);have a2:=Oj s[p] 47 mT;have T:=Oj s[p] 39 mT;have J:=Oj s[p] 37 mT;have hd:=Je s p hp;unfold GY;rw[hd];simp only;rw[<-hd];clear hd;cases hw:FW s[p] with
 | true=>
  rw[hw]at j;rw[if_pos rfl];have a1:=Hd (WJ s mR p mR w);clear hw a2 T J;go_enter Tryz.func118,Tryz.ntmps118
  go_wp2_with (first
   | (go_at_call 154;refine j.mono ?_;rintro e i ⟨rfl,rfl⟩)
   | (go_at_call 155;refine a1.mono ?_;rintro e i ⟨rfl,rfl⟩))
  go_ret3
  exact E6.IC _ 0 _ _ rfl
 | false=>
 rw[hw]at j;rw[if_neg mT];clear hw;by_cases C:s[p]=47
 ·rw[if_pos C]
  have a7:((s[p].toNat:Int)==47)=true:=by rw[C];rfl
  have I:=Hd (VH s hs p hp C w hm);clear a2 T J C;go_enter Tryz.func118,Tryz.ntmps118
  go_wp2_with (first
   | (go_at_call 154;refine j.mono ?_;rintro e i ⟨rfl,rfl⟩)
   | (go_at_call 156;refine I.mono ?_;intro e i l;obtain⟨n,v,rfl,a0⟩:=l.one;clear l;have o:=Hd (a0 0 eW);clear a0))
  go_ret3
  exact o
 rw[if_neg C];have a7:((s[p].toNat:Int)==47)=false:=by rw[show ((s[p].toNat:Int)==47)=_ from a2];exact bN.2 C
 clear a2 C;by_cases P:s[p]=39
 ·rw[if_pos P]
  have a6:((s[p].toNat:Int)==39)=true:=by rw[P];rfl
  have I:=Hd (Z3 s mR p hp w);clear T J P;go_enter Tryz.func118,Tryz.ntmps118
  go_wp2_with (first
   | (go_at_call 154;refine j.mono ?_;rintro e i ⟨rfl,rfl⟩)
   | (go_at_call 136;refine I.mono ?_;intro e i l;obtain⟨n,v,rfl,a0⟩:=l.one;clear l;have o:=Hd (a0 2 aM);clear a0))
  go_ret3
  exact o
 rw[if_neg P];have a6:((s[p].toNat:Int)==39)=false:=by rw[show ((s[p].toNat:Int)==39)=_ from T];exact bN.2 P
 clear T P;by_cases t:s[p]=37
 ·rw[if_pos t]
  have a5:((s[p].toNat:Int)==37)=true:=by rw[t];rfl
  have I:=Hd (Wk s hs p hp t w);clear J t;generalize Kn p (s.data.toList.drop (p+1))=a8 at *;cases a8 with
  | ok q=>
   obtain⟨k,n⟩:=q;go_enter Tryz.func118,Tryz.ntmps118
   go_wp2_with (first
    | (go_at_call 154;refine j.mono ?_;rintro e i ⟨rfl,rfl⟩)
    | (go_at_call 157;refine I.mono ?_;intro e i l;obtain⟨hb,rfl⟩:=l;have o:=Hd hb;clear hb))
   go_ret3
   exact⟨o,rfl⟩
  | error f=>
   go_enter Tryz.func118,Tryz.ntmps118
   go_wp2_with (first
    | (go_at_call 154;refine j.mono ?_;rintro e i ⟨rfl,rfl⟩)
    | (go_at_call 157;refine I.mono ?_;intro e i l;obtain⟨hb,k,v,rfl,hv⟩:=l;have o:=Hd hb;have HV:=Hd hv;clear hb hv))
   go_ret3
   exact⟨o,_,_,rfl,HV⟩
 rw[if_neg t];have a5:((s[p].toNat:Int)==37)=false:=by rw[show ((s[p].toNat:Int)==37)=_ from J];exact bN.2 t
 clear J t;have R:=Hd (Oo s[p] w);by_cases U:B9 s[p]=4
 ·rw[if_pos U]
  rw[U]at R;clear U;have a1:=Hd (Qc s mR p mR w);generalize Cd Cw (s.data.toList.drop p)=k at *;by_cases a3:24<k
  ·rw[if_pos a3]
   have a4:(24:Int)<(k:Int):=by omega
   clear a3;go_enter Tryz.func118,Tryz.ntmps118
   go_wp2_with (first
    | (go_at_call 154;refine j.mono ?_;rintro e i ⟨rfl,rfl⟩)
    | (go_at_call 60;refine R.mono ?_;rintro e i ⟨rfl,rfl⟩)
    | (go_at_call 155;refine a1.mono ?_;rintro e i ⟨rfl,rfl⟩)
    | (go_at_call 85;refine(GI _ rfl _ _).mono ?_;rintro e i ⟨rfl,rfl⟩))
   go_ret3
   exact E6.KT _ 5 p _ _ rfl
  ·rw[if_neg a3]
   have a4:¬(24:Int)<(k:Int):=by omega
   clear a3;go_enter Tryz.func118,Tryz.ntmps118
   go_wp2_with (first
    | (go_at_call 154;refine j.mono ?_;rintro e i ⟨rfl,rfl⟩)
    | (go_at_call 60;refine R.mono ?_;rintro e i ⟨rfl,rfl⟩)
    | (go_at_call 155;refine a1.mono ?_;rintro e i ⟨rfl,rfl⟩))
   go_ret3
   exact E6.IC _ 1 k _ rfl
 rw[if_neg U];have q4:((B9 s[p]:Int)==4)=false:=bN.2 mR;clear U;have HS:=Hd (ZK s[p] w);generalize B9 s[p]=cl at *;by_cases h0:Jg s[p]=0
 ·rw[if_neg (by simpa using h0)]
  rw[h0]at HS;clear h0;go_enter Tryz.func118,Tryz.ntmps118
  go_wp2_with (first
   | (go_at_call 154;refine j.mono ?_;rintro e i ⟨rfl,rfl⟩)
   | (go_at_call 60;refine R.mono ?_;rintro e i ⟨rfl,rfl⟩)
   | (go_at_call 159;refine HS.mono ?_;rintro e i ⟨rfl,rfl⟩)
   | (go_at_call 85;refine(GI _ rfl _ _).mono ?_;rintro e i ⟨rfl,rfl⟩))
  go_ret3
  exact E6.KT _ 2 p _ _ rfl
 ·rw[if_pos h0]
  generalize Jg s[p]=sg at *;have q0:((sg:Int) != 0)=true:=bne_iff_ne.2 mR;clear h0;go_enter Tryz.func118,Tryz.ntmps118
  go_wp2_with (first
   | (go_at_call 154;refine j.mono ?_;rintro e i ⟨rfl,rfl⟩)
   | (go_at_call 60;refine R.mono ?_;rintro e i ⟨rfl,rfl⟩)
   | (go_at_call 159;refine HS.mono ?_;rintro e i ⟨rfl,rfl⟩))
  go_ret3
  exact E6.IC _ sg 1 _ rfl
theorem Qs{p:Nat}{l:List UInt8}{k:Nat}(i:GY sz p l=.ok (k,n))(a0:sz=p+l.length):n<=l.length:=by
 unfold GY at i;cases l with
 | nil=>injection i with i;obtain⟨rfl,rfl⟩:=Prod.mk.inj i;simp
 | cons c r=>
  simp only at i;split at i
  ·injection i with i
   obtain⟨rfl,rfl⟩:=Prod.mk.inj i;exact MP _ _
  split at i
  ·unfold JH at i
   split at i
   ·rename_i P
    split at i
    ·cases i
    ·rename_i h0
     injection i with i;obtain⟨rfl,rfl⟩:=Prod.mk.inj i;cases r with
     | nil=>cases P
     | cons d t=>
      simp only[List.drop_succ_cons,List.drop_zero]at h0 ⊢;have T:(Lib.index t [42,47]).toNat+2<=t.length:=by
       rcases Lib.index_spec t [42,47] with⟨C,_⟩|⟨a1,C,_,j,_⟩
       ·omega
       ·rcases Lib.occAt_room j with o|o
        ·rw[C];simpa using o
        ·cases o
      simp;omega
   ·cases i
  split at i
  ·unfold J0 at i
   split at i;· cases i
   split at i;· cases i
   rename_i j;split at i;· cases i
   injection i with i;obtain⟨rfl,rfl⟩:=Prod.mk.inj i;have I:r[Bs r]?=nJ 39:=by
    by_cases h:r[Bs r]?=nJ 39
    ·exact h
    ·exact absurd (.inl h) j
   have R:Bs r<r.length:=(sG.1 I).1;simp;omega
  split at i
  ·have U:=MP Cw r
   unfold Kn at i;split at i
   ·rename_i J
    injection i with i;obtain⟨rfl,rfl⟩:=Prod.mk.inj i;cases r with
    | nil=>cases J
    | cons d t=>simp
   split at i
   ·injection i with i;obtain⟨rfl,rfl⟩:=Prod.mk.inj i;simp;omega
   split at i
   ·injection i with i;obtain⟨rfl,rfl⟩:=Prod.mk.inj i;simp;omega
   ·cases i
  split at i
  ·split at i
   ·cases i
   injection i with i;obtain⟨rfl,rfl⟩:=Prod.mk.inj i;exact MP _ _
  split at i
  ·injection i with i
   obtain⟨rfl,rfl⟩:=Prod.mk.inj i;simp
  ·cases i
def Tk.cells(t:Tk):List nU:=[nE nM t.k,nH (str t.s),nE nM t.p]
def Tk.Np(t:Tk):t.cells.length=3:=rfl
def LQ:El Tryz.prog 160 216 3 32:=El.of (z:=.agg #[nE nM 0,nH ⟨#[]⟩,nE nM 0]) Tryz.underlying160 mU rfl mT
def LM(y:nS)(a c:Int)(b:ByteArray):Ba (y.alloc (nO #[a,nH b,c] 216)) (nC (y,0) 1 1) 1 3 [nE nM a,nH b,nE nM c]:=
 Ba.Ap (c:=1) (Ah.new y 216 #[a,nH b,c]) rfl mZ
def Tz{B:Nat}{i:nS}(h:AI B T (i.alloc o) w2)(j:B<=i.heap.size):Below B i w2:=
 ((AE i o).mono j).trans (h.below mX)
def Qz(i:List Tk):Except Bn (List Tk)->Except Bn (List Tk)
 | .ok j=>.ok (i++j)
 | .error e=>.error e
def Hj(s:ByteArray)(p:Nat)(i:List Tk):Prop:=∃f,s.size-p<f/\E5 s.size (s.size+1) 0 s.data.toList=Qz i (E5 s.size f p (s.data.toList.drop p))
def Hj.start(s:ByteArray):Hj s 0 []:=⟨s.size+1,mR,by rw[List.drop_zero];generalize E5 s.size (s.size+1) 0 s.data.toList=r;cases r<;>rfl⟩
theorem Hj.last{s:ByteArray}{p:Nat}{i:List Tk}(h:Hj s p i)(j:p=s.size):E5 s.size (s.size+1) 0 s.data.toList=.ok (i++[⟨0,[],s.size⟩]):=by
 obtain⟨f,l,h⟩:=h;subst j;rw[h,Pa];cases f with
 | zero=>omega
 | succ f=>rfl
theorem Hj.step{s:ByteArray}{p:Nat}{o:List Tk}(h:Hj s p o)(T:p<s.size) :
  match GY s.size p (s.data.toList.drop p) with
  | .error e=>E5 s.size (s.size+1) 0 s.data.toList=.error e
  | .ok (k,n)=>0<n/\p+n<=s.size/\Hj s (p+n) (if k=0 then o else o++[⟨k,(s.data.toList.drop p).take n,p⟩]):=by
 obtain⟨f,R,h⟩:=h;have t:(s.data.toList.drop p).length=s.size-p:=by rw[List.length_drop,Il]
 cases f with
 | zero=>omega
 | succ f=>
  have C:(s.data.toList.drop p).isEmpty=false:=by
   cases J:s.data.toList.drop p with
   | nil=>rw[J]at t;simp at t;omega
   | cons a l=>rfl
  cases j:GY s.size p (s.data.toList.drop p) with
  | error e=>simp only;rw[h];simp only[E5,C,j];rfl
  | ok q=>
   obtain⟨k,n⟩:=q;simp only;have I:=(Px j).2 mR;have P:=Qs j mR;refine⟨I,mR,f,mR,?_⟩;rw[h];simp only[E5,C,j];rw[List.drop_drop];cases E5 s.size f (p+n) (s.data.toList.drop (p+n)) with
   | error e=>rfl
   | ok U=>
    simp only[Qz];by_cases i:k=0
    ·rw[if_pos i,if_pos i];rfl
    ·rw[if_neg i,if_neg i];simp
def ZQ(w:nS)(r:Except Bn (List Tk))(e:Ending)(w':nS):Prop:=
 Below w w w'/\match r with
 | .ok i=>∃v,e=nP (.tuple #[v,.nilIface])/\w'.ownsRow w 216 3 v i.length (i.flatMap Tk.cells)
 | .error f=>∃v,e=nP (.tuple #[nC nK 0 0,v])/\JQ w' v f
def Xb(s:ByteArray)(hs:s.size<=4611686018427387904)(w:nS)(hm:FI w):() 83 #[nH s] w (ZQ w (tokens s.data.toList)):=by
 unfold tokens;rw[Il];by_cases T:8192<s.size
 ·rw[if_pos T]
  have q1:(8192:Int)<(s.size:Int):=by omega
  clear T;go_enter Tryz.func83,Tryz.ntmps83
  go_wp2;go_step3
  go_wp2_with (go_at_call 85;refine(GI _ rfl _ _).mono ?_;rintro e w' ⟨rfl,rfl⟩)
  rw[Exit.noGoto_ret]
  go_ret2
  exact⟨AE _ _,_,rfl,JQ.new w 5 0⟩
 rw[if_neg T];have q1:¬(8192:Int)<(s.size:Int):=by omega
 have aa:s.size<=8192:=by omega
 have HM:=Hd hm;clear T hm;go_enter Tryz.func83,Tryz.ntmps83
 go_wp2;go_step3
 go_wp2;go_step3
 go_wp2;go_loopw [4,5] (fun v a3 wr=>∃(p:Nat) (i:List Tk),p<=s.size/\a3=nE nM p/\i.length<=p/\(∃A c,v=nC A i.length c)/\Hid (wr.ownsRow w 216 3 v i.length (i.flatMap Tk.cells))/\Hid (Below w w wr)/\Hid (Hj s p i)) (fun _ a3 _=>s.size-(intOf a3).toNat)
 case atStart=>exact⟨0,[],A0 _,rfl,AF _,⟨nK,0,rfl⟩,Hd (World.ownsRow_nil _ _ _ _),Hd (Below.refl _ _),Hd (Hj.start s)⟩
 case round=>
  obtain⟨p,i,hp,rfl,ad,⟨A,c,rfl⟩,HO,j,HT⟩:=hrel;by_cases a4:p<s.size
  ·have a9:¬(s.size:Int)<=(p:Int):=by omega
   have C:=Hd (Wb s aa p a4 wr (HM.later j));have I:=HT.step a4;cases U:GY s.size p (s.data.toList.drop p) with
   | error f=>
    rw[U]at C I;have HS:=Hd I;clear I U;go_wp2_with (go_at_call 118;refine C.mono ?_;intro e w1 J;obtain⟨l,k,v,rfl,hv⟩:=J;obtain⟨b,rfl,t⟩:=hv;have o:=Hd l;have HV:=Hd t;clear l t)
    go_ret2
    rw[HS.out];exact⟨j.trans (o.mono j.size),_,rfl,_,rfl,HV⟩
   | ok q=>
    obtain⟨k,n⟩:=q;rw[U]at C I;obtain⟨ae,af,a5⟩:=I;have HN:=Hd a5;have b1:(p:Int)+(n:Int)<=(s.size:Int):=by omega
    have a6:str ((s.data.toList.drop p).take n)=s.extract p (p+n):=by rw[<-Rs,Uv]
    have a8:=Hd a6;clear U a5 a6;by_cases t:k=0
    ·subst t
     have a1:Hid (Hj s (p+n) i):=Hd HN;go_wp2_with (go_at_call 118;refine C.mono ?_;intro e w1 J;obtain⟨l,rfl⟩:=J;have o:=Hd l;clear l)
     go_roundw
     case rel=>exact⟨p+n,i,mR,mY,mR,⟨_,_,rfl⟩,Hd ((AI.AJ (B:=0) (T:=[]) o).own HO (.inr mV)),Hd (j.trans (o.mono j.size)),a1⟩
     case measure=>simp[intOf];omega
    ·have a1:Hid (Hj s (p+n) (i++[⟨k,(s.data.toList.drop p).take n,p⟩])):=Hd (by have:=HN.out;rw[if_neg t]at this;exact this)
     have q0:((k:Int) != 0)=true:=bne_iff_ne.2 mR;clear t;go_wp2_with (first
      | (go_at_call 118;refine C.mono ?_;intro e w1 J;obtain⟨l,rfl⟩:=J;have o:=Hd l;have a7:=Hd ((AI.AJ (B:=0) (T:=[]) l).own HO (.inr mV));have ab:=j.size;have ag:=l.size;clear l)
      | (at_builtin;refine Du LQ (.tmp 29) (.tmp 39) rfl rfl (base:=w.heap.size) (n:=i.length) (m:=1) (N:=i.length+1) (xs:=i.flatMap Tk.cells) (news:=[nE nM k,nH (s.extract p (p+n)),nE nM p]) rfl rfl (a7.alloc _) (LM w1 _ _ _) rfl mW mR mX ?_;intro A2 c2 w2 P R r3;have a2:=Hd P;have a0:=Hd (Tz R mR);clear P R r3))
     go_roundw
     case rel=>refine⟨p+n,i++[⟨k,(s.data.toList.drop p).take n,p⟩],mR,mY,mX,⟨A2,c2,mV⟩,Hd ?_,Hd ((j.trans (o.mono j.size)).trans a0),a1⟩;have:=a2.out;rw[<-a8.out]at this;simpa [Tk.cells] using this
     case measure=>simp[intOf];omega
  ·have a9:(s.size:Int)<=(p:Int):=by omega
   obtain rfl:p=s.size:=by omega
   have HL:=Hd (HT.last rfl);have ab:=j.size;go_wp2_with (at_builtin;refine Du LQ (.tmp 44) (.tmp 48) rfl rfl (base:=w.heap.size) (n:=i.length) (m:=1) (N:=i.length+1) (xs:=i.flatMap Tk.cells) (news:=[nE nM 0,nH ⟨#[]⟩,nE nM s.size]) rfl rfl (HO.alloc _) (LM wr _ _ _) rfl mW mR mX ?_;intro A2 c2 w2 P R r3;have a2:=Hd P;have a0:=Hd (Tz R mR);clear P R r3)
   rw[Exit.noGoto_ret]
   go_ret2
   rw[HL.out];refine⟨j.trans a0,_,rfl,?_⟩;have:=a2.out;simpa [Tk.cells,str] using this
def BW(f:Bn)(e:Ending):Prop:=e=.panicked [{v:=.iface 164 (.agg #[f.1,f.2]),recovered:=false}]
def Ej(k p:Int)(w:nS):() 166 #[k,p] w fun e w'=>e=.panicked [{v:=.iface 164 (.agg #[k,p]),recovered:=false}]/\w=w':=by
 go_enter Tryz.func166,Tryz.ntmps166
 go_wp2;exact⟨rfl,rfl,rfl⟩
def BW.of{k p:Int}{f:Bn}(i:k=f.1)(j:p=f.2):BW f (.panicked [{v:=.iface 164 (.agg #[k,p]),recovered:=false}]):=by subst i;subst j;rfl
structure KC(w:nS)(b off c:Nat)(cs:Array nU)(l:List Tk):Prop where
 Ap:Ah w b 216 cs
 cap:l.length<=c/\c<=maxLen
 cell:∀k t,l[k]?=nJ t->cs[off+k*3]?=nJ (nE nM t.k)/\cs[off+k*3+1]?=nJ (nH (str t.s))/\cs[off+k*3+2]?=nJ (nE nM t.p)
variable{b:Nat}{cs:Array nU}
def EY(w:nS)(v:nU)(l:List Tk):Prop:=∃b off c i,v=nC (nJ ⟨b,off,nK⟩) l.length c/\KC w b off c i l
def EY.Ay{w:nS}{v:nU}{l:List Tk}(h:EY w v l)(j:Aj X w w')(o:∀g,v.ownBlock=nJ g->¬X g):EY w' v l:=by obtain⟨b,off,c,i,rfl,h⟩:=h;exact⟨b,off,c,i,rfl,j.Ap h.Ap (o b rfl),h.cap,h.cell⟩
def EY.lt{w:nS}{v:nU}{l:List Tk}(h:EY w v l):∀g,v.ownBlock=nJ g->g<w.heap.size:=by
 obtain⟨b,off,c,j,rfl,h⟩:=h;intro g i;cases i
 exact h.Ap.lt
def KC.tail{w:nS}{off c:Nat}{t:Tk}{r:List Tk}(h:KC w b off c cs (t::r)):KC w b (off+3) (c-1) cs r where
 Ap:=h.Ap
 cap:=by have:=h.cap;simp at this;omega
 cell k u i:=by have:=h.cell (k+1) u i;rw[show off+3+k*3=off+(k+1)*3 by omega];exact this
def KC.head{w:nS}{off c:Nat}{t:Tk}{r:List Tk}(h:KC w b off c cs (t::r)) :
  nQ w (b,off)=nJ (nE nM t.k)/\nQ w (b,off+1)=nJ (nH (str t.s))/\nQ w (b,off+2)=nJ (nE nM t.p):=by
 have:=h.cell 0 t rfl;rw[h.Ap.cell,h.Ap.cell,h.Ap.cell];simpa using this
def J3{w:nS}{rb:Nat}{t:Tk}{r:List Tk}(h0:nQ w (rb,0)=nJ j)(o:EY w j (t::r))(k:Nat):() 119 #[(rb,0),k] w fun e w'=>e=nP (nI (t.k==k))/\w'=w:=by
 obtain⟨b,off,c,C,rfl,h⟩:=o;obtain⟨p,_,_⟩:=h.head;have i:((t.k:Int)==(k:Int))=(t.k==k):=by rw[Bool.eq_iff_iff,beq_iff_eq,beq_iff_eq];omega
 have l:=Hd i;have I:(0:Int)<((t::r).length:Int):=by rw[List.length_cons];omega
 generalize (t::r).length=n at *;clear h i;go_enter Tryz.func119,Tryz.ntmps119
 go_wp2;go_ret;exact⟨C9 l,rfl⟩
theorem SP{w:nS}{rb:Nat}{o:nU}{t:Tk}{r:List Tk}(h0:nQ w (rb,0)=nJ o)(l:EY w o (t::r)):() 160 #[(rb,0)] w fun e w'=>e=nP (nI (Bj t))/\w'=w:=by
 have i:=Hd (J3 h0 l 1);have p:=Hd (J3 h0 l 2);unfold Bj;clear h0 l;cases j:(t.k==1) with
 | true=>
  rw[j]at i;clear j;go_enter Tryz.func160,Tryz.ntmps160
  go_wp2_with (go_at_call 119;refine i.mono ?_;rintro e w' ⟨rfl,rfl⟩)
  go_ret;exact⟨rfl,rfl⟩
 | false=>
  rw[j]at i;clear j;go_enter Tryz.func160,Tryz.ntmps160
  go_wp2_with fail
  refine i.mono ?_;rintro e w' ⟨rfl,rfl⟩;go_wp2_with fail
  refine p.mono ?_;rintro e w' ⟨rfl,rfl⟩;go_wp2;go_ret;exact⟨mV,rfl⟩
def US{w:nS}{rb:Nat}{p:nU}{t:Tk}{r:List Tk}(h0:nQ w (rb,0)=nJ p)(o:EY w p (t::r)):() 161 #[(rb,0)] w fun e w'=>BW (DH (t::r)) e/\w'=w:=by
 have j:=Hd (J3 h0 o 0);obtain⟨b,off,c,C,rfl,h⟩:=o;obtain⟨_,_,c2⟩:=h.head;have I:(0:Int)<((t::r).length:Int):=by rw[List.length_cons];omega
 have l:DH (t::r)=(if t.k=0 then 4 else 3,t.p):=rfl;rw[l];clear h l;generalize (t::r).length=n at *;by_cases i:t.k=0
 ·rw[if_pos i]
  rw[show (t.k==0)=true by simp[i]]at j;clear i;go_enter Tryz.func161,Tryz.ntmps161
  go_wp2_with (first
   | (go_at_call 119;refine j.mono ?_;rintro e w' ⟨rfl,rfl⟩)
   | (go_at_call 166;refine(Ej _ _ _).mono ?_;rintro e w' ⟨rfl,rfl⟩))
  exact⟨rfl,BW.of rfl rfl,rfl⟩
 ·rw[if_neg i]
  rw[show (t.k==0)=false by simp[i]]at j;clear i;go_enter Tryz.func161,Tryz.ntmps161
  go_wp2_with (first
   | (go_at_call 119;refine j.mono ?_;rintro e w' ⟨rfl,rfl⟩)
   | (go_at_call 166;refine(Ej _ _ _).mono ?_;rintro e w' ⟨rfl,rfl⟩))
  exact⟨rfl,BW.of rfl rfl,rfl⟩
def Tk.val(t:Tk):nU:=.agg #[t.k,nH (str t.s),t.p]
def MN(w:nS)(rb:Nat)(j l o p C:nU)(I:nU)(t:Tk)(r:List Tk)(e:Ending)(w':nS):Prop:=
 e=nP t.val/\Aj (·=rb) w w'/\∃i,Ah w' rb 169 #[i,j,l,o,p,C]/\EY w' i r/\i.ownBlock=I.ownBlock
def Nz{w:nS}{rb:Nat}{o p I J:nU}{t:Tk}{r:List Tk}(i:Ah w rb 169 #[j,o,p,C,I,J])(hl:EY w j (t::r))(T:r≠[])(R:j.ownBlock≠nJ rb):() 121 #[(rb,0)] w (MN w rb o p C I J j t r):=by
 obtain⟨b,off,c,cs,rfl,h⟩:=hl;obtain⟨c0,c1,c2⟩:=h.head;have a2:b≠rb:=fun e=>R (by rw[e];rfl)
 have a1:=i.cell 0;have a5:=i.frozen 0;simp at a1;have a6:=i.lt;have a7:=h.Ap.lt;have hT:=Hd h;have P:=h.cap;have a8:0<r.length:=List.length_pos_iff.2 T;simp only[List.length_cons]at P;have U:=Hd i;clear h i T R;obtain⟨a4,a3⟩:=P;unfold maxLen at a3;rw[show (t::r).length=r.length+1 from rfl];have q1:¬c=1:=by omega
 have q2:(0:Int)<(r.length:Int)+1:=by omega
 have q3:(1:Int)<=(r.length:Int)+1:=by omega
 have q4:(r.length:Int)+1<=(c:Int):=by omega
 go_enter Tryz.func121,Tryz.ntmps121
 go_wp2;refine bodyPost_ret (v:=t.val) (by simp[results,Tryz.results121,go_sem,Tk.val]) rfl ⟨rfl,?_,?_⟩
 ·exact(((Aj.refl (·=rb) w).set (p:=⟨rb,0,nK⟩) (.inr rfl) _).alloc _).alloc _
 ·have a0:=(((U.AW 0 (nC (b,off+3) r.length (c-1))).alloc (nO #[t.k,nH (str t.s),t.p] 216)).alloc (nO #[t.k,nH (str t.s),t.p] 216))
  refine⟨_,by simpa using a0,⟨b,off+3,c-1,cs,rfl,?_⟩,rfl⟩;have l:=hT.tail;exact⟨((l.Ap.BC (p:=⟨rb,0,nK⟩) (by simpa using a2) _).alloc _).alloc _,l.cap,l.cell⟩
def Vo{w:nS}{rb:Nat}{p:nU}{t:Tk}{r:List Tk}(h0:nQ w (rb,0)=nJ p)(I:EY w p (t::r))(k:Nat)(C:(t.k==k)=false):() 162 #[(rb,0),k] w fun e w'=>BW (DH (t::r)) e/\Below w w w':=by
 have l:=AE w (nO #[nE nM 0,nH ⟨#[]⟩,nE nM 0] 216);have i:=(l.cell (p:=⟨rb,0,nK⟩) (World.block_lt_of_cell? w _ h0)).trans h0;have o:EY (w.alloc (nO #[nE nM 0,nH ⟨#[]⟩,nE nM 0] 216)) p (t::r):=I.Ay (X:=fun _=>False) (.AJ l) (fun _ _ h=>h);have j:=J3 i o k;rw[C]at j;have J:=Hd j;have P:=Hd (US i o);clear h0 I i o j C l;go_enter Tryz.func162,Tryz.ntmps162
 go_wp2_with (first
  | (go_at_call 119;refine J.mono ?_;rintro e w' ⟨rfl,rfl⟩)
  | (go_at_call 161;refine P.mono ?_;intro e w' R;obtain⟨rfl,rfl⟩:=R))
 exact⟨rfl,BW.of rfl rfl,AE _ _⟩
def jX{w:nS}{rb:Nat}{U f2 f3 f4 f5 o:nU}{t:Tk}{r:List Tk}(I:Ah w rb 169 #[o,U,f2,f3,f4,f5])(l:EY w o (t::r))(hr:r≠[])(j:o.ownBlock≠nJ rb)(k:Nat)(hk:(t.k==k)=true):() 162 #[(rb,0),k] w (MN w rb U f2 f3 f4 f5 o t r):=by
 have C:=AE w (nO #[nE nM 0,nH ⟨#[]⟩,nE nM 0] 216);have J:=I.alloc (nO #[nE nM 0,nH ⟨#[]⟩,nE nM 0] 216);have T:EY (w.alloc (nO #[nE nM 0,nH ⟨#[]⟩,nE nM 0] 216)) o (t::r):=l.Ay (X:=fun _=>False) (.AJ C) (fun _ _ h=>h);have p:=J3 (J.cell 0) T k;rw[hk]at p;have H1:=Hd p;have H2:=Hd (Nz J T hr j);have a2:=I.lt;have HA:=Hd C;have a1:=Hd l.lt;clear I l hr j J T p hk C;go_enter Tryz.func162,Tryz.ntmps162
 go_wp2_with (first
  | (go_at_call 119;refine H1.mono ?_;rintro e w' ⟨rfl,rfl⟩)
  | (go_at_call 121;refine H2.mono ?_;intro e w1 hx;obtain⟨rfl,R,a0⟩:=hx;have HC:=Hd R;have HX:=Hd a0;have i:=(R.block w.heap.size mV mR).trans (Ah.new w 216 #[nE nM 0,nH ⟨#[]⟩,nE nM 0]);have HK:=Hd i;have j0:=Ah.cell i 0;have j1:=Ah.cell i 1;have j2:=Ah.cell i 2;have i0:=Ah.frozen i 0;have i1:=Ah.frozen i 1;have i2:=Ah.frozen i 2;clear R a0 i;simp at j0 j1 j2;unfold Tk.val))
 refine bodyPost_ret (v:=t.val) (by simp[results,Tryz.results162,go_sem,Tk.val,j0,j1,j2]) rfl ⟨rfl,?_,?_⟩
 ·exact(((((Aj.refl (·=rb) w).alloc _).next HC).set (p:=⟨w.heap.size,0,nK⟩) (.inl (AF _)) _).set (p:=⟨w.heap.size,1,nK⟩) (.inl (AF _)) _).set (p:=⟨w.heap.size,2,nK⟩) (.inl (AF _)) _
 ·obtain⟨a3,hb,l,ho⟩:=HX.out
  have j:rb≠w.heap.size:=by omega
  obtain⟨b,off,c,cs,rfl,h⟩:=l;have P:b≠w.heap.size:=by have:=a1 b (ho▸rfl);omega
  refine⟨_,((hb.BC (p:=⟨w.heap.size,0,nK⟩) j _).BC (p:=⟨w.heap.size,1,nK⟩) j _).BC (p:=⟨w.heap.size,2,nK⟩) j _,⟨b,off,c,cs,rfl,?_⟩,ho⟩;exact⟨((h.Ap.BC (p:=⟨w.heap.size,0,nK⟩) P _).BC (p:=⟨w.heap.size,1,nK⟩) P _).BC (p:=⟨w.heap.size,2,nK⟩) P _,h.cap,h.cell⟩
def Ic:List Tk->Prop
 | []=>False
 | [t]=>t.k=0
 | t::r=>t.k≠0/\Ic r
theorem Ic.tail{t:Tk}{r:List Tk}(h:Ic (t::r))(i:t.k≠0):Ic r/\r≠[]:=by
 cases r with
 | nil=>exact absurd h i
 | cons u r=>exact⟨h.2,mV⟩
theorem Ic.cons{l:List Tk}(h:Ic l):∃t r,l=t::r:=by
 cases l with
 | nil=>exact h.elim
 | cons t r=>exact⟨t,r,rfl⟩
def Oz{t:Tk}(h:Bj t=true):t.k≠0:=by intro h0;unfold Bj at h;rw[h0]at h;cases h
def Aj.keeps{w a b:nS}(h:Aj X w a)(k:AI w T a b):Aj X w b:=
 ⟨k.os.trans h.os,k.tape.trans h.tape,k.output.trans h.output,AY h.size k.size,fun i j l=>(k.block i (AK j h.size) (.inl j)).trans (h.block i j l)⟩
structure Cm(w:nS)(rb:Nat)(f1 f2 f3 f4 f5:nU)(tb:Option Nat)(l:List Tk):Prop where
 ex:∃lv,Ah w rb 169 #[lv,f1,f2,f3,f4,f5]/\EY w lv l/\lv.ownBlock=tb
 ended:Ic l
 ne:tb≠nJ rb
def MN.A8{w:nS}{rb:Nat}{l o p:nU}{t:Tk}{r:List Tk}{e:Ending}(h:MN w rb j l o p C i t r e w')(hr:Ic r)(U:i.ownBlock≠nJ rb) :
  e=nP t.val/\Aj (·=rb) w w'/\Cm w' rb j l o p C i.ownBlock r:=by
 obtain⟨I,J,a0,P,R,T⟩:=h;exact⟨I,J,⟨a0,P,R,T⟩,hr,U⟩
def Cm.Ay{w:nS}{rb:Nat}{o p t:nU}{tb:Option Nat}{l:List Tk}(h:Cm w rb i j o p t tb l)(C:Aj X w w')(I:¬X rb)(J:∀g,tb=nJ g->¬X g):Cm w' rb i j o p t tb l:=by obtain⟨T,P,R,rfl⟩:=h.ex;exact⟨⟨T,C.Ap P I,R.Ay C J,rfl⟩,h.ended,h.ne⟩
def Cm.lt{w:nS}{rb:Nat}{o p t:nU}{tb:Option Nat}{l:List Tk}(h:Cm w rb i j o p t tb l):rb<w.heap.size/\∀g,tb=nJ g->g<w.heap.size:=by obtain⟨J,C,I,rfl⟩:=h.ex;exact⟨C.lt,I.lt⟩
structure IP(w:nS)(rb:Nat)(f1 f2 f3 f4 f5:nU)(tb:Option Nat)(l:List Tk)(sb:Nat)(p:Nat)(sv:nU)(a rest:List Tk)(wr:nS):Prop where
 A8:Cm wr rb f1 f2 f3 f4 f5 tb rest
 Ap:Ah wr sb 226 #[sv,p]
 own:wr.ownsRow w 216 3 sv a.length (a.flatMap Tk.cells)
 Ay:Aj (·=rb) w wr
 tw:l.takeWhile Bj=a++rest.takeWhile Bj
 dw:l.dropWhile Bj=rest.dropWhile Bj
variable{a:List Tk}
def eC{w wr w1:nS}{rb:Nat}{I J:nU}{tb:Option Nat}{l:List Tk}{i p:Nat}{sv:nU}{r:List Tk}{t:Tk}(a8:rb<w.heap.size)(a6:∀g,tb=nJ g->g<w.heap.size)(a5:w.heap.size<=i)
  (h:IP w rb C I J P R tb l i p sv a (t::r) wr) (ht:Bj t=true) (a1:Aj (·=rb) wr w1) (U:Cm w1 rb C I J P R tb r)
  (ho:w2.ownsRow w 216 3 (nC A2 (a.length+1) c2) (a.length+1) (a.flatMap Tk.cells++t.cells)) (o:AI w [216] (w1.alloc (nO #[t.k,nH (str t.s),t.p] 216)) w2) :
  IP w rb C I J P R tb l i p (nC A2 (a.length+1) c2) (a++[t]) r (w2.setCell (i,0) (nC A2 (a.length+1) c2)):=by
 have a2:rb≠i:=by omega
 have a0:Ah w2 i 226 #[sv,p]:=o.Ap ((a1.Ap h.Ap (Ne.symm a2)).alloc _) (.inr mT);have a4:Aj (·=rb) w w2:=((h.Ay.next a1).alloc _).keeps o;refine⟨⟨?_,U.ended,U.ne⟩,by simpa using a0.AW 0 _,?_,a4.set (p:=⟨i,0,nK⟩) (.inl a5) _,?_,?_⟩
 ·obtain⟨lv,k1,k2,k3⟩:=U.ex
  refine⟨lv,(o.Ap (k1.alloc _) (.inr mT)).BC (by simpa using a2) _,?_,k3⟩;obtain⟨b,off,c,cs,rfl,T⟩:=k2;have hb:=a6 b (by rw[<-k3];rfl);exact⟨b,off,c,cs,rfl,(o.Ap (T.Ap.alloc _) (.inl hb)).BC mX _,T.cap,T.cell⟩
 ·have:(a++[t]).length=a.length+1:=by simp
  rw[this,List.flatMap_append];refine Ee (by simpa using ho) ?_ _;intro j;rcases Bg ho with⟨e,_⟩|⟨b,c,e,_,_,_,_,a7,a3⟩
  ·rw[e]at j;cases j
  ·rw[e]at j
   cases j
   exact Ah.Bh (t:=216) a3 a0 mT rfl
 ·rw[h.tw,List.takeWhile_cons,if_pos ht];simp
 ·rw[h.dw,List.dropWhile_cons,if_pos ht]
def BH{w:nS}{base:Nat}{v:nU}(h:w.ownsRow base e size v n xs):∃A c,v=nC A n c:=by
 rcases Bg h with⟨rfl,rfl⟩|⟨b,c,rfl,_⟩
 ·exact⟨nK,0,rfl⟩
 ·exact⟨_,c,rfl⟩
def CY{w:nS}{base x:Nat}{v:nU}(h:w.ownsRow base e size v n xs)(o:x<base):∀g,v.ownBlock=nJ g->¬g=x:=by
 rcases Bg h with⟨rfl,_⟩|⟨b,c,rfl,j,_⟩
 ·intro g i;cases i
 ·intro g i l
  cases i
  subst l;exact absurd o (Nat.not_lt.2 j)
def IP.len{w wr:nS}{rb:Nat}{o t:nU}{tb:Option Nat}{l:List Tk}{R p:Nat}{T:nU}{rest:List Tk}(h:IP w rb i j o t C tb l R p T a rest wr):a.length+rest.length=l.length:=by have I:=congrArg List.length h.tw;have U:=congrArg List.length h.dw;have J:=congrArg List.length (List.takeWhile_append_dropWhile (p:=Bj) (l:=l));have P:=congrArg List.length (List.takeWhile_append_dropWhile (p:=Bj) (l:=rest));rw[BS]at I J P;omega
def PJ(l:List Tk):(BU l).l=l.takeWhile Bj:=by cases l<;>rfl
def IP.drew{w wr:nS}{rb:Nat}{o t I:nU}{tb:Option Nat}{l:List Tk}{J p:Nat}{rest:List Tk}(h:IP w rb j o t C I tb l J p P a rest wr):IP w rb j o t C I tb l J p P a rest wr.drew:=by have i:Aj (fun _=>False) wr wr.drew:=(Aj.refl _ _).drew;exact⟨h.A8.Ay i id (fun _ _=>id),i.Ap h.Ap id,i.own h.own (fun _ _=>id),h.Ay.drew,h.tw,h.dw⟩
def XC(w:nS)(rb:Nat)(i j o p t:nU)(tb:Option Nat)(l:List Tk)(e:Ending)(w':nS):Prop:=
 ∃A c,e=nP (.agg #[nC A (BU l).l.length c,nE nM (BU l).p])/\Aj (·=rb) w w'/\Cm w' rb i j o p t tb (l.dropWhile Bj)/\w'.ownsRow w 216 3 (nC A (BU l).l.length c) (BU l).l.length ((BU l).l.flatMap Tk.cells)
def UF{w:nS}{rb:Nat}{f1 f2 f3 f4 f5:nU}{tb:Option Nat}{l:List Tk}(h:Cm w rb f1 f2 f3 f4 f5 tb l)(b2:l.length<=100000):() 163 #[(rb,0)] w (XC w rb f1 f2 f3 f4 f5 tb l):=by
 obtain⟨aa,ae⟩:=h.lt;obtain⟨j,r0,a1⟩:=h.ended.cons;obtain⟨lv,o,p,C⟩:=h.ex;have hA:=AE w (nO #[nC nK 0 0,nE nM 0] 226);have a7:=((Aj.refl (·=rb) w).alloc (nO #[nC nK 0 0,nE nM 0] 226)).alloc (nO #[nC nK 0 0,j.p] 226);have hp:(BU l).p=j.p:=by rw[a1];rfl
 have HP:=Hd hp;have ad:IP w rb f1 f2 f3 f4 f5 tb l (w.heap.size+1) j.p (nC nK 0 0) [] l ((w.alloc (nO #[nC nK 0 0,nE nM 0] 226)).alloc (nO #[nC nK 0 0,j.p] 226)):=by have ax:=((Aj.refl (fun _=>False) w).alloc (nO #[nC nK 0 0,nE nM 0] 226)).alloc (nO #[nC nK 0 0,j.p] 226);refine⟨h.Ay ax id (fun _ _ h=>h),?_,World.ownsRow_nil _ _ _ _,a7,rfl,rfl⟩;have:=Ah.new (w.alloc (nO #[nC nK 0 0,nE nM 0] 226)) 226 #[nC nK 0 0,j.p];rwa [World.size_alloc]at this
 have au:=Hd ad;have an:=Hd ((Ah.new w 226 #[nC nK 0 0,nE nM 0]).alloc (nO #[nC nK 0 0,j.p] 226));have aw:=o.cell 0;simp at aw;obtain⟨b,off,c,cs,rfl,a2⟩:=p;rw[a1]at a2;obtain⟨_,_,c2⟩:=a2.head;have b4:=a2.Ap.lt;have b3:(0:Int)<(l.length:Int):=by rw[a1,List.length_cons];omega
 clear hA a7 h o a2 a1 C hp ad;go_enter Tryz.func163,Tryz.ntmps163
 go_wp2;generalize b5:w.heap.size+1=sb at *;go_loopg [] l.length (fun n wr=>∃sv a rest,n=rest.length/\Hid (IP w rb f1 f2 f3 f4 f5 tb l sb j.p sv a rest wr)/\Hid (Ah wr w.heap.size 226 #[nC nK 0 0,nE nM 0]))
 case atStart=>exact⟨_,[],l,rfl,au,an⟩
 case round=>
  obtain⟨sv,a,rest,rfl,i,R⟩:=hrel;obtain⟨t,r,rfl⟩:=i.A8.ended.cons;have a8:=i.len;obtain⟨af,o,p,C⟩:=i.A8.ex;have h0:=o.cell 0;simp at h0;have H1:=Hd (SP h0 p);obtain⟨A,c,rfl⟩:=BH i.own;have b0:=i.Ap.cell 0;have b1:=i.Ap.cell 1;have u0:=i.Ap.frozen 0;have ag:=R.cell 0;have ah:=R.cell 1;have v0:=R.frozen 0;have v1:=R.frozen 1;simp at b0 b1 ag ah;have b6:=i.Ap.lt;cases I:Bj t with
  | true=>
   rw[I]at H1;have HD:=Hd i.drew;have ao:=Hd (((Aj.refl (fun _=>False) wr).drew).Ap R id);clear o p C;obtain⟨af,o,p,C⟩:=HD.A8.ex;have a5:=i.A8.ended.tail (Oz I);have a4:af.ownBlock≠nJ rb:=by rw[C];exact i.A8.ne
   have H2:=Hd ((Nz o p a5.2 a4).mono fun e P hx=>(by have:=hx.A8 a5.1 a4;rw[C]at this;exact this:e=nP (.agg #[t.k,nH (str t.s),t.p])/\Aj (·=rb) wr.drew P/\Cm P rb f1 f2 f3 f4 f5 tb r));have av:=Hd I;have HA:a.length+r.length<100000:=by simp at a8;omega
   clear o p h0 C I a5 a8 a4;go_wp2_with (go_at_call 160;refine H1.mono ?_;rintro e w' ⟨rfl,J⟩;replace J:=J.symm;subst J)
   go_region_law (first
    | (
      refine Fe LQ (.tmp 15) (.tmp 18) ?_ ?_ (base:=w.heap.size) (n:=a.length) (m:=1) (N:=a.length+1) (v:=nC A a.length c) (src:=nC (P,0) 1 1) (xs:=a.flatMap Tk.cells) (news:=[nE nM t.k,nH (str t.s),nE nM t.p]) ?_ ?_ ?_ ?_ ?_ ?_ ?_ ?_ ?_
      ·rfl
      ·rfl
      ·rfl
      ·rfl
      ·exact ak.alloc _
      ·exact LM P _ _ _
      ·rfl
      ·unfold maxLen;omega
      ·omega
      ·simp;omega
      intro A2 c2 w2 r1 r2 r3;have HF:=Hd (eC aa ae mR HD av ai ar r1 r2);have a3:=r2.Ap (aj.alloc _) (.inr mT);have z0:=a3.cell 0;have z1:=a3.frozen 0;simp at z0;have aq:=Hd ((r2.Ap (al.alloc _) (.inr mT)).BC (p:=⟨sb,0,nK⟩) mX (nC A2 (a.length+1) c2));clear r1 r2 r3 a3)
    | (
      go_simp;go_at_call 121;refine H2.mono ?_;intro e P hx;obtain⟨rfl,T,ab⟩:=hx;have ai:=Hd T;have ar:=Hd ab;have ak:=Hd (T.own HD.own (CY HD.own aa));have hk:=T.Ap HD.Ap mR;have b0:=hk.cell 0;have u0:=hk.frozen 0;simp at b0;have aj:=Hd hk;have al:=Hd (T.Ap ao mR);have b7:wr.heap.size<=P.heap.size:=T.size;have b8:sb<P.heap.size:=by omega
      clear T ab hk))
   all_goals go_wp2
   all_goals go_roundg r.length
   all_goals first
    | (case measure=>simp)
    | (case rel=>exact⟨_,a++[t],r,rfl,HF,aq⟩)
    | skip
  | false=>
   rw[I]at H1;clear o p h0;go_wp2_with (go_at_call 160;refine H1.mono ?_;rintro e w' ⟨rfl,J⟩;replace J:=J.symm;subst J)
   refine bodyPost_ret (v:=.agg #[nC A a.length c,j.p]) (by simp[results,Tryz.results163,go_sem,ag,ah]) rfl ?_;have a0:=i.out;have a6:=a0.tw;rw[List.takeWhile_cons,if_neg (by rw[I];simp),List.append_nil]at a6;have a9:=a0.dw;rw[List.dropWhile_cons,if_neg (by rw[I];simp)]at a9;have hX:Aj (·=w.heap.size) wr ((wr.setCell (w,0) (nC A a.length c)).setCell (w,1) j.p):=((Aj.refl (·=w.heap.size) wr).set (p:=⟨w.heap.size,0,nK⟩) (.inr rfl) _).set (p:=⟨w.heap.size,1,nK⟩) (.inr rfl) _;refine⟨A,c,?_,(a0.Ay.set (p:=⟨w.heap.size,0,nK⟩) (.inl (AF _)) _).set (p:=⟨w.heap.size,1,nK⟩) (.inl (AF _)) _,?_,?_⟩
   ·rw[PJ,a6,HP.out]
   ·rw[a9]
    exact a0.A8.Ay hX mR (fun g U=>by have:=ae g U;omega)
   ·rw[PJ,a6]
    refine hX.own a0.own ?_;intro g U he;rcases Bg a0.own with⟨e,_⟩|⟨b,c,e,_,_,_,_,az,ay⟩
    ·rw[e]at U;cases U
    ·rw[e]at U
     cases U
     exact Ah.Bh (t:=216) ay R mT he
def Q7:El Tryz.prog 34 3 1 8:=El.of (z:=nE nM 0) Tryz.underlying34 mU rfl mT
def Rj(y:nS)(a:Int):Ba (y.alloc (nO #[a] 3)) (nC (y,0) 1 1) 1 1 [nE nM a]:=
 Ba.Ap (c:=1) (Ah.new y 3 #[a]) rfl mZ
def Aj.Cy{w:nS}{v:nU}(h:w.grownBy w' v.ownBlock):Aj (fun k=>v.ownBlock=nJ k) w w':=⟨h.os,h.tape,h.output,h.size,fun k i j=>h.block k i (fun e=>j e.symm)⟩
def Gt{w:nS}{t C:Nat}{i j:TypeId}{U s2 n1 n2:Nat}{v1 p:nU}{a0 a1:List nU}(I:w.ownsRow t i U v1 n1 a0)(J:w.ownsRow C j s2 p n2 a1)(T:i≠j):∀g,v1.ownBlock=nJ g->¬p.ownBlock=nJ g:=by
 intro g l o;rcases Bg I with⟨rfl,_⟩|⟨b,c,rfl,_,_,_,_,a2,P⟩
 ·cases l
 ·cases l
  rcases Bg J with⟨rfl,_⟩|⟨b2,c2,rfl,_,_,_,_,a3,R⟩
  ·cases o
  ·cases o
   exact Ah.Bh (t:=i) P R T rfl
def B0{w:nS}{B:Nat}{s:Nat}{v:nU}(h:w.ownsRow B e s v n xs):∀g,v.ownBlock=nJ g->B<=g/\g<w.heap.size:=by
 intro g i;rcases Bg h with⟨rfl,_⟩|⟨b,c,rfl,j,l,_⟩
 ·cases i
 ·cases i
  exact⟨j,l⟩
def Mark(m:Nat):nU:=nE nM m
structure Da(w:nS)(B rb:Nat)(f4 f5:nU)(tb:Option Nat)(l:List Tk)(x:Bl)(dv kv sv:nU):Prop where
 A8:Cm w rb dv kv sv f4 f5 tb l
 decl:w.ownsRow B 216 3 dv x.decl.length (x.decl.flatMap Tk.cells)
 marks:w.ownsRow B 3 1 kv x.marks.length (x.marks.map Mark)
 starts:w.ownsRow B 216 3 sv x.starts.length (x.starts.flatMap Tk.cells)
 apart:∀g,dv.ownBlock=nJ g->¬sv.ownBlock=nJ g
 EG:rb<B
 GA:∀g,tb=nJ g->g<B
 bB:B<=w.heap.size
 ld:x.decl.length+l.length<=100000
 lm:x.marks.length+l.length<=100000
 ls:x.starts.length+l.length<=100000
def Da.Ay{w:nS}{B rb:Nat}{t:nU}{tb:Option Nat}{l P:List Tk}{x:Bl}{p J:nU}(h:Da w B rb t C tb l x p J R)(o:Aj X w w')(I:∀k,X k->k=rb)(T:Cm w' rb p J R t C tb P)(U:P.length<=l.length):Da w' B rb t C tb P x p J R where
 A8:=T
 decl:=o.own h.decl (fun g j i=>CY h.decl h.EG g j (I g i))
 marks:=o.own h.marks (fun g j i=>CY h.marks h.EG g j (I g i))
 starts:=o.own h.starts (fun g j i=>CY h.starts h.EG g j (I g i))
 apart:=h.apart
 EG:=h.EG
 GA:=h.GA
 bB:=AY h.bB o.size
 ld:=by have:=h.ld;omega
 lm:=by have:=h.lm;omega
 ls:=by have:=h.ls;omega
def ZT{w:nS}{B rb:Nat}{T:nU}{tb:Option Nat}{l:List Tk}{x:Bl}{kv sv:nU}{N:Nat}{t:Tk}(h:Da w B rb R T tb l x j kv sv)(hl:x.decl.length+1+l.length<=100000)(hN:N=x.decl.length+1)
  (ho:w2.ownsRow B 216 3 (nC A2 N c2) N (x.decl.flatMap Tk.cells++t.cells)) (hg:(w.alloc o).grownBy w2 j.ownBlock/\((Value.slice A2 N c2).ownBlock=j.ownBlock\/(Value.slice A2 N c2).ownBlock=nJ (w.alloc o).heap.size)) :
  Da (w2.setCell (rb,1) (nC A2 N c2)) B rb R T tb l {x with decl:=x.decl++[t]} (nC A2 N c2) kv sv/\Aj (fun k=>k=rb\/B<=k) w (w2.setCell (rb,1) (nC A2 N c2)):=by
 have U:Aj (fun k=>j.ownBlock=nJ k) w w2:=((Aj.refl _ w).alloc o).next (.Cy hg.1);have J:∀k,j.ownBlock=nJ k->B<=k:=fun k hk=>(B0 h.decl k hk).1
 have p:Aj (fun k=>k=rb\/j.ownBlock=nJ k) w (w2.setCell (rb,1) (nC A2 N c2)):=(U.mono (fun a1 I=>.inr I)).set (p:=⟨rb,1,nK⟩) (.inr (.inl rfl)) _;have P:=h.EG;obtain⟨lv,k1,k2,k3⟩:=h.A8.ex;have e1:¬j.ownBlock=nJ rb:=fun e=>by have:=J _ e;omega
 refine⟨⟨⟨⟨lv,by simpa using(U.Ap k1 e1).AW 1 _,k2.Ay p ?_,k3⟩,h.A8.ended,h.A8.ne⟩,?d,?k,?s,?_,h.EG,h.GA,AY h.bB p.size,?_,?_,?_⟩,p.mono ?_⟩
 ·intro g i
  rw[k3]at i;rintro(rfl|C)
  ·exact h.A8.ne i
  ·have:=h.GA g i;have:=J g C;omega
 case d=>rw[show (x.decl++[t]).length=N by rw[hN];simp,List.flatMap_append];exact Ee (by simpa [Tk.cells] using ho) (fun e=>CY ho P _ e rfl) _
 case k=>
  refine p.own h.marks ?_;rintro g i (rfl|C)
  ·exact CY h.marks P _ i rfl
  ·exact Gt h.decl h.marks mT g C i
 case s=>
  refine p.own h.starts ?_;rintro g i (rfl|C)
  ·exact CY h.starts P _ i rfl
  ·exact h.apart g C i
 ·intro g i a0
  rcases hg.2 with e|e
  ·rw[e]at i;exact h.apart g i a0
  ·rw[e]at i;cases i;have:=(B0 h.starts _ a0).2;simp at this;omega
 ·have:=h.ld;simp at this ⊢;omega
 ·have:=h.lm;simp at this ⊢;omega
 ·have:=h.ls;simp at this ⊢;omega
 ·rintro a1 (I|I)
  ·exact .inl I
  ·exact .inr (J a1 I)
def fV{w:nS}{B rb:Nat}{T:nU}{tb:Option Nat}{l:List Tk}{x:Bl}{sv:nU}{N:Nat}{m:Nat}(h:Da w B rb R T tb l x P j sv)(hl:x.marks.length+1+l.length<=100000)(hN:N=x.marks.length+1)
  (ho:w2.ownsRow B 3 1 (nC A2 N c2) N (x.marks.map Mark++[Mark m])) (hg:(w.alloc o).grownBy w2 j.ownBlock/\((Value.slice A2 N c2).ownBlock=j.ownBlock\/(Value.slice A2 N c2).ownBlock=nJ (w.alloc o).heap.size)) :
  Da (w2.setCell (rb,2) (nC A2 N c2)) B rb R T tb l {x with marks:=x.marks++[m]} P (nC A2 N c2) sv/\Aj (fun k=>k=rb\/B<=k) w (w2.setCell (rb,2) (nC A2 N c2)):=by
 have U:Aj (fun k=>j.ownBlock=nJ k) w w2:=((Aj.refl _ w).alloc o).next (.Cy hg.1);have I:∀k,j.ownBlock=nJ k->B<=k:=fun k hk=>(B0 h.marks k hk).1
 have p:Aj (fun k=>k=rb\/j.ownBlock=nJ k) w (w2.setCell (rb,2) (nC A2 N c2)):=(U.mono (fun a0 C=>.inr C)).set (p:=⟨rb,2,nK⟩) (.inr (.inl rfl)) _;have J:=h.EG;obtain⟨lv,k1,k2,k3⟩:=h.A8.ex;have e1:¬j.ownBlock=nJ rb:=fun e=>by have:=I _ e;omega
 refine⟨⟨⟨⟨lv,by simpa using(U.Ap k1 e1).AW 2 _,k2.Ay p ?_,k3⟩,h.A8.ended,h.A8.ne⟩,?d,?k,?s,?_,h.EG,h.GA,AY h.bB p.size,?_,?_,?_⟩,p.mono ?_⟩
 ·intro g i
  rw[k3]at i;rintro(rfl|t)
  ·exact h.A8.ne i
  ·have:=h.GA g i;have:=I g t;omega
 case k=>rw[show (x.marks++[m]).length=N by rw[hN];simp,Bz];exact Ee (by simpa [Mark] using ho) (fun e=>CY ho J _ e rfl) _
 case d=>
  refine p.own h.decl ?_;rintro g i (rfl|t)
  ·exact CY h.decl J _ i rfl
  ·exact Gt h.marks h.decl mT g t i
 case s=>
  refine p.own h.starts ?_;rintro g i (rfl|t)
  ·exact CY h.starts J _ i rfl
  ·exact Gt h.marks h.starts mT g t i
 ·exact h.apart
 ·have:=h.ld;simp at this ⊢;omega
 ·have:=h.lm;simp at this ⊢;omega
 ·have:=h.ls;simp at this ⊢;omega
 ·rintro a0 (C|C)
  ·exact .inl C
  ·exact .inr (I a0 C)
def Vu{w:nS}{B rb:Nat}{U f5:nU}{tb:Option Nat}{l:List Tk}{x:Bl}{T kv:nU}{N:Nat}{t:Tk}(h:Da w B rb U f5 tb l x T kv j)(hl:x.starts.length+1+l.length<=100000)(hN:N=x.starts.length+1)
  (ho:w2.ownsRow B 216 3 (nC A2 N c2) N (x.starts.flatMap Tk.cells++t.cells)) (hg:(w.alloc o).grownBy w2 j.ownBlock/\((Value.slice A2 N c2).ownBlock=j.ownBlock\/(Value.slice A2 N c2).ownBlock=nJ (w.alloc o).heap.size)) :
  Da (w2.setCell (rb,3) (nC A2 N c2)) B rb U f5 tb l {x with starts:=x.starts++[t]} T kv (nC A2 N c2)/\Aj (fun k=>k=rb\/B<=k) w (w2.setCell (rb,3) (nC A2 N c2)):=by
 have hX:Aj (fun k=>j.ownBlock=nJ k) w w2:=((Aj.refl _ w).alloc o).next (.Cy hg.1);have P:∀k,j.ownBlock=nJ k->B<=k:=fun k hk=>(B0 h.starts k hk).1
 have p:Aj (fun k=>k=rb\/j.ownBlock=nJ k) w (w2.setCell (rb,3) (nC A2 N c2)):=(hX.mono (fun a0 I=>.inr I)).set (p:=⟨rb,3,nK⟩) (.inr (.inl rfl)) _;have R:=h.EG;obtain⟨lv,k1,k2,k3⟩:=h.A8.ex;have e1:¬j.ownBlock=nJ rb:=fun e=>by have:=P _ e;omega
 refine⟨⟨⟨⟨lv,by simpa using(hX.Ap k1 e1).AW 3 _,k2.Ay p ?_,k3⟩,h.A8.ended,h.A8.ne⟩,?d,?k,?s,?_,h.EG,h.GA,AY h.bB p.size,?_,?_,?_⟩,p.mono ?_⟩
 ·intro g i
  rw[k3]at i;rintro(rfl|C)
  ·exact h.A8.ne i
  ·have:=h.GA g i;have:=P g C;omega
 case s=>rw[show (x.starts++[t]).length=N by rw[hN];simp,List.flatMap_append];exact Ee (by simpa [Tk.cells] using ho) (fun e=>CY ho R _ e rfl) _
 case d=>
  refine p.own h.decl ?_;rintro g i (rfl|C)
  ·exact CY h.decl R _ i rfl
  ·exact h.apart g i C
 case k=>
  refine p.own h.marks ?_;rintro g i (rfl|C)
  ·exact CY h.marks R _ i rfl
  ·exact Gt h.starts h.marks mT g C i
 ·intro g i J
  rcases hg.2 with e|e
  ·rw[e]at J;exact h.apart g i J
  ·rw[e]at J;cases J;have:=(B0 h.decl _ i).2;simp at this;omega
 ·have:=h.ld;simp at this ⊢;omega
 ·have:=h.lm;simp at this ⊢;omega
 ·have:=h.ls;simp at this ⊢;omega
 ·rintro a0 (I|I)
  ·exact .inl I
  ·exact .inr (P a0 I)
def RH(w:nS)(rb:Nat)(f1 f2 f3 f4 f5:nU)(tb:Option Nat)(t:Tk)(r:List Tk)(e:Ending)(w':nS):Prop:=
 e=nP (.agg #[t.k,nH (str t.s),t.p])/\Aj (·=rb) w w'/\Cm w' rb f1 f2 f3 f4 f5 tb r
namespace Cm
variable {w:nS} {rb:Nat} {f1 f2 f3 f4 f5:nU} {tb:Option Nat} {t:Tk} {r l:List Tk}
def is(h:Cm w rb f1 f2 f3 f4 f5 tb (t::r))(k:Nat)(K:Int)(p:K=(k:Int)):() 119 #[(rb,0),K] w fun e w'=>e=nP (nI (t.k==k))/\w=w':=by subst p;obtain⟨I,o,C,_⟩:=h.ex;exact(J3 (o.cell 0) C k).mono fun e w' ⟨i,j⟩=>⟨i,j.symm⟩
def sym(h:Cm w rb f1 f2 f3 f4 f5 tb (t::r)):() 160 #[(rb,0)] w fun e w'=>e=nP (nI (Bj t))/\w=w':=by obtain⟨C,o,p,_⟩:=h.ex;exact(SP (o.cell 0) p).mono fun e w' ⟨i,j⟩=>⟨i,j.symm⟩
def bad(h:Cm w rb f1 f2 f3 f4 f5 tb (t::r)):() 161 #[(rb,0)] w fun e w'=>e=.panicked [{v:=.iface 164 (.agg #[nE nM (DH (t::r)).1,nE nM (DH (t::r)).2]),recovered:=false}]/\w=w':=by obtain⟨C,o,p,_⟩:=h.ex;exact(US (o.cell 0) p).mono fun e w' ⟨i,j⟩=>⟨i,j.symm⟩
def take(h:Cm w rb f1 f2 f3 f4 f5 tb (t::r))(I:t.k≠0):() 121 #[(rb,0)] w (RH w rb f1 f2 f3 f4 f5 tb t r):=by
 obtain⟨R,C,J,j⟩:=h.ex;obtain⟨o,p⟩:=h.ended.tail I;have i:R.ownBlock≠nJ rb:=by rw[j];exact h.ne
 refine(Nz C J p i).mono fun e T P=>?_
 have:=P.A8 o i;rw[j]at this;exact this
def want(h:Cm w rb f1 f2 f3 f4 f5 tb (t::r))(k:Nat)(K:Int)(J:K=(k:Int))(i:t.k=k)(h0:k≠0):() 162 #[(rb,0),K] w (RH w rb f1 f2 f3 f4 f5 tb t r):=by
 subst J;obtain⟨T,I,P,o⟩:=h.ex;obtain⟨p,C⟩:=h.ended.tail (i▸h0);have j:T.ownBlock≠nJ rb:=by rw[o];exact h.ne
 refine(jX I P C j k (by simp[i])).mono fun e U R=>?_
 have:=R.A8 p j;rw[o]at this;exact this
def Nj(h:Cm w rb f1 f2 f3 f4 f5 tb (t::r))(k:Nat)(K:Int)(j:K=(k:Int))(o:t.k≠k):() 162 #[(rb,0),K] w fun e w'=>e=.panicked [{v:=.iface 164 (.agg #[nE nM (DH (t::r)).1,nE nM (DH (t::r)).2]),recovered:=false}]/\Below w w w':=by subst j;obtain⟨C,i,p,_⟩:=h.ex;exact Vo (i.cell 0) p k (by simp[o])
def drew(h:Cm w rb f1 f2 f3 f4 f5 tb l):Cm w.drew rb f1 f2 f3 f4 f5 tb l:=h.Ay ((Aj.refl (fun _=>False) w).drew) id (fun _ _=>id)
def cells(h:Cm w rb f1 f2 f3 f4 f5 tb l):nQ w (rb,1)=nJ f1/\nQ w (rb,2)=nJ f2/\nQ w (rb,3)=nJ f3/\nQ w (rb,4)=nJ f4/\nQ w (rb,5)=nJ f5/\rb<w.heap.size:=by obtain⟨o,i,j,_⟩:=h.ex;exact⟨i.cell 1,i.cell 2,i.cell 3,i.cell 4,i.cell 5,i.lt⟩
def frozen(h:Cm w rb f1 f2 f3 f4 f5 tb l)(k:Nat):w.frozen? (rb,k)=false:=by obtain⟨o,i,j,_⟩:=h.ex;exact i.frozen k
end Cm
def Da.drew{w:nS}{B rb:Nat}{f4 f5:nU}{tb:Option Nat}{l:List Tk}{x:Bl}{o:nU}(h:Da w B rb f4 f5 tb l x i j o):Da w.drew B rb f4 f5 tb l x i j o:=
 h.Ay ((Aj.refl (fun _=>False) w).drew) (fun _ h=>h.elim) h.A8.drew (AF _)
def Da.ex{w:nS}{B rb:Nat}{f4 f5:nU}{tb:Option Nat}{l:List Tk}{x:Bl}{o:nU}(h:Da w B rb f4 f5 tb l x i j o):∃A1 c1 A2 c2 A3 c3,i=nC A1 x.decl.length c1/\j=nC A2 x.marks.length c2/\o=nC A3 x.starts.length c3:=by obtain⟨A1,c1,p⟩:=BH h.decl;obtain⟨A2,c2,C⟩:=BH h.marks;obtain⟨A3,c3,I⟩:=BH h.starts;exact⟨A1,c1,A2,c2,A3,c3,p,C,I⟩
def Da.grown{w:nS}{B rb:Nat}{f4 f5 v:nU}{tb:Option Nat}{l:List Tk}{x:Bl}{p:nU}(h:Da w B rb f4 f5 tb l x i p C)(j:∀k,v.ownBlock=nJ k->B<=k/\k<w.heap.size)(I:(w.alloc o).grownBy w2 v.ownBlock):Cm w2 rb i p C f4 f5 tb l:=by
 refine h.A8.Ay (((Aj.refl _ w).alloc o).next (.Cy I)) (fun e=>?_) (fun g J e=>?_)
 ·have:=(j _ e).1;have:=h.EG;omega
 ·have:=(j _ e).1;have:=h.GA _ J;omega
def XV(w:nS)(B rb:Nat)(f4 f5:nU)(tb:Option Nat)(x:Bl)(l:List Tk)(e:Ending)(w':nS):Prop:=
 Aj (fun k=>k=rb\/B<=k) w w'/\match C0 x l with
 | .ok (C,o)=>e=nP (.tuple #[])/\∃i j p,Da w' B rb f4 f5 tb o C i j p
 | .error f=>BW f e
def Zg(k p:Int)(s:ByteArray)(w:nS):(Instr.field 216 (.agg #[k,nH s,p]) 2).run Tryz.prog w=.ok p w:=by kernel_rfl
def Xu{w:nS}{B rb:Nat}{f4 f5:nU}{tb:Option Nat}{l:List Tk}{x:Bl}{dv kv sv:nU}(h:Da w B rb f4 f5 tb l x dv kv sv):() 120 #[(rb,0)] w (XV w B rb f4 f5 tb x l):=by
 obtain⟨t,r,rfl⟩:=h.A8.ended.cons;obtain⟨A1,c1,A2,c2,A3,c3,rfl,rfl,rfl⟩:=h.ex;have H7:=Hd (h.A8.is 7 7 rfl);have H8:=Hd (h.A8.is 8 8 rfl);have al:=Hd h.A8.bad;have bb:=h.EG;by_cases U:t.k=7
 ·have hk:(t.k==7)=true:=by simp[U]
  rw[hk]at H7;have HT:=Hd (h.A8.take mR);obtain⟨j,o,rfl⟩:=(h.A8.ended.tail mR).1.cons;have HH:=Hd h;cases I:Bj j with
  | false=>
   have HE:Hid (C0 x (t::j::o)=.error (DH (j::o))):=Hd (by simp[C0,U,I]);have ag:=Hd I;clear h U I hk;go_enter Tryz.func120,Tryz.ntmps120
   go_wp2_with (first
    | (go_at_call 119;with_reducible refine H7.out.mono ?_;rintro e R ⟨rfl,i⟩;subst i)
    | (go_at_call 121;refine HT.mono ?_;intro e w1 hx;obtain⟨rfl,a1,a0⟩:=hx;have aa:=Hd a1;have HY:=Hd (ag.out▸a0.sym);have ak:=Hd a0.bad;clear a1 a0)
    | (go_at_call 160;refine HY.mono ?_;rintro e R ⟨rfl,i⟩;subst i)
    | (go_at_call 161;refine ak.mono ?_;rintro e R ⟨rfl,i⟩;subst i))
   refine⟨rfl,aa.mono (fun _ h=>.inl h),?_⟩;rw[HE.out];exact BW.of rfl rfl
  | true=>
   have HE:Hid (C0 x (t::j::o)=.ok ({x with decl:=x.decl++(j::o).takeWhile Bj},(j::o).dropWhile Bj)):=Hd (by simp[C0,U,I]);have ag:=Hd I;have HN:Hid (j::o≠[]):=Hd mV;have b6:Hid (x.decl.length+(j::o).length<=100000):=Hd (by have:=h.ld;simp at this ⊢;omega);clear U hk;go_enter Tryz.func120,Tryz.ntmps120
   go_wp2_with (first
    | (go_at_call 119;with_reducible refine H7.out.mono ?_;rintro e R ⟨rfl,i⟩;subst i)
    | (go_at_call 121;refine HT.mono ?_;intro e w1 hx;obtain⟨rfl,a1,a0⟩:=hx;have aa:=Hd a1;have HY:=Hd (I▸a0.sym);have af:=Hd (HH.Ay a1 (fun _ h=>h) a0 mV);clear a1 a0 h I)
    | (go_at_call 160;refine HY.mono ?_;rintro e R ⟨rfl,i⟩;subst i))
   have bd:B<=w1.heap.size:=af.bB;go_loopg [] (j::o).length (fun n wr=>∃dv a rest,n=rest.length/\Hid (Da wr B rb f4 f5 tb rest {x with decl:=x.decl++a} dv (nC A2 x.marks.length c2) (nC A3 x.starts.length c3))/\Hid (Aj (fun k=>k=rb\/B<=k) w wr)/\Hid ((j::o).takeWhile Bj=a++rest.takeWhile Bj/\(j::o).dropWhile Bj=rest.dropWhile Bj))
   case atStart=>
    have b0:Da w1 B rb f4 f5 tb (j::o) {x with decl:=x.decl++[]} (nC A1 x.decl.length c1) (nC A2 x.marks.length c2) (nC A3 x.starts.length c3):=by rw[List.append_nil];exact af
    exact⟨nC A1 x.decl.length c1,[],j::o,rfl,Hd b0,Hd (aa.mono (fun _ h=>.inl h)),Hd ⟨rfl,rfl⟩⟩
   case round=>
    obtain⟨dv,a,rest,rfl,HR,HC,a8⟩:=hrel;obtain⟨t3,r3,rfl⟩:=HR.A8.ended.cons;obtain⟨A,c,au⟩:=BH HR.decl;generalize ai:(x.decl++a).length=n at *;have ar:=HR.ld;have ay:({x with decl:=x.decl++a}:Bl).decl.length=n:=ai;simp at ar ai;subst au;have a9:=Hd HR.A8.sym;have az:=HR.bB;cases h3:Bj t3 with
    | false=>
     rw[h3]at a9;go_wp2_with (go_at_call 160;refine a9.mono ?_;rintro e R ⟨rfl,i⟩;subst i)
     refine bodyPost_ret (results_none rfl _ _ _) rfl ⟨HC,?_⟩;rw[HE.out];have h1:=a8.1;have I:=a8.2;rw[List.takeWhile_cons (a:=t3),if_neg (by rw[h3];simp),List.append_nil]at h1;rw[List.dropWhile_cons (x:=t3),if_neg (by rw[h3];simp)]at I;rw[h1,I];exact⟨rfl,_,_,_,HR⟩
    | true=>
     rw[h3]at a9;have ad:=Hd HR.drew;have ao:=Hd (ad.A8.take (Oz h3));have ah:=Hd h3;obtain⟨b1,_,_,_,_,_⟩:=ad.A8.cells;clear h3;go_wp2_with (go_at_call 160;refine a9.mono ?_;rintro e R ⟨rfl,i⟩;subst i)
     go_region_law (first
       | (
         refine Fe LQ (.tmp 20) (.tmp 23) ?_ ?_ (base:=B) (n:=n) (m:=1) (N:=n+1) (v:=nC A n c) (src:=nC (w3,0) 1 1) (xs:=(x.decl++a).flatMap Tk.cells) (news:=t3.cells) ?_ ?_ ?_ ?_ ?_ ?_ ?_ ?_ ?_
         · rfl
         · rfl
         · rfl
         · rfl
         · have:=T.decl
           rw[ay]at this;exact this.alloc _
         · exact LM w3 _ _ _
         · rfl
         · unfold maxLen;omega
         · omega
         · simp;omega
         intro A4 c4 w4 q1 q2 P;have HF:=Hd (ZT T mX mX q1 P);have J:=T.grown (B0 T.decl) P.1;obtain⟨cA,_,_,_,_,_⟩:=J.cells;have vA:=J.frozen 1;clear q1 q2 P J)
       | (
         go_simp;go_at_call 121;refine ao.mono ?_;intro e w3 hx;obtain⟨rfl,p,C⟩:=hx;have ab:=Hd p;have T:=Hd (ad.Ay p (fun _ h=>h) C mV);obtain⟨d1,_,_,_,_,aj⟩:=C.cells;have v1:=C.frozen 1;have b4:wr.heap.size<=w3.heap.size:=p.size;clear p C))
     all_goals go_wp2
     all_goals go_roundg r3.length
     all_goals first
       | (case measure=>simp)
       | (case rel=>
          refine⟨nC A4 (n+1) c4,a++[t3],r3,rfl,Hd ?_,Hd ?_,Hd ?_⟩
          · have:=HF.1
            rw[List.append_assoc]at this;exact this
          · exact(HC.drew.next (ab.mono (fun _ h=>.inl h))).next HF.2
          · have h1:=a8.1
            have I:=a8.2;rw[List.takeWhile_cons (a:=t3),if_pos ah.out]at h1;rw[List.dropWhile_cons (x:=t3),if_pos ah.out]at I;exact⟨by rw[h1];simp,I⟩)
 ·have hk:(t.k==7)=false:=by simp[U]
  rw[hk]at H7;by_cases h8:t.k=8
  ·have a3:(t.k==8)=true:=by simp[h8]
   rw[a3]at H8;obtain⟨j,o,rfl⟩:=(h.A8.ended.tail mR).1.cons;have HD:=Hd h.drew;have HT:=Hd (HD.A8.take mR);obtain⟨_,b2,_,_,_,az⟩:=HD.A8.cells;have aw:=h.lm;have ax:=h.ls;simp at aw ax;have b8:=h.bB;have a4:Hid (j.k=1->C0 x (t::j::o)=.ok ({x with marks:=x.marks++[t.p],starts:=x.starts++[j]},o)):=Hd (fun e=>by simp[C0,h8,Ct,e]);have a5:Hid (j.k≠1->C0 x (t::j::o)=.error (DH (j::o))):=Hd (fun e=>by simp[C0,h8,Ct,e]);have b9:=Zg t.k t.p (str t.s);clear h U h8 hk a3;go_enter Tryz.func120,Tryz.ntmps120
   go_wp2_with (first
    | (go_at_call 119;with_reducible refine H7.out.mono ?_;rintro e R ⟨rfl,i⟩;subst i)
    | (go_at_call 119;with_reducible refine H8.out.mono ?_;rintro e R ⟨rfl,i⟩;subst i))
   go_region_law (first
    | (
      refine Fe Q7 (.tmp 34) (.tmp 38) ?_ ?_ (base:=B) (n:=x.marks.length) (m:=1) (N:=x.marks.length+1) (v:=nC A2 x.marks.length c2) (src:=nC (w3,0) 1 1) (xs:=x.marks.map Mark) (news:=[Mark t.p]) ?_ ?_ ?_ ?_ ?_ ?_ ?_ ?_ ?_
      · rfl
      · rfl
      · rfl
      · rfl
      · exact T.marks.alloc _
      · exact Rj w3 _
      · rfl
      · unfold maxLen;omega
      · omega
      · simp;omega
      intro A4 c4 w4 q1 q2 P;have HF:=Hd (fV T mX mV q1 P);have J:=T.grown (B0 T.marks) P.1;obtain⟨_,cA,_,_,_,_⟩:=J.cells;have vA:=J.frozen 2;clear q1 q2 P J)
    | (
      go_simp;go_at_call 121;refine HT.mono ?_;intro e w3 hx;obtain⟨rfl,p,C⟩:=hx;have ab:=Hd p;have T:=Hd (HD.Ay p (fun _ h=>h) C mV);obtain⟨_,d2,_,_,_,aj⟩:=C.cells;have v1:=C.frozen 2;have b4:w.heap.size<=w3.heap.size:=p.size;clear p C))
   all_goals go_wp2
   all_goals generalize b5:World.setCell w4 (rb,2) (nC A4 (x.marks.length+1) c4)=w5 at *
   all_goals clear b2 d2 v1 cA vA b5
   all_goals have a6:=Hd HF.1.drew
   all_goals have ae:=Hd ((((Aj.refl (fun k=>k=rb\/B<=k) w).drew.next (ab.mono (fun _ h=>.inl h))).next HF.2).drew)
   all_goals have b7:=HF.1.bB
   all_goals have av:=HF.1.ld
   all_goals simp at av
   all_goals obtain⟨_,_,b3,_,_,ba⟩:=a6.A8.cells
   all_goals by_cases a2:j.k=1
   all_goals first
    | (
      have HW:=Hd (a6.A8.want 1 1 rfl a2 mR);replace a4:=Hd (a4 a2);clear a2 a5;go_region_law (first
        | (
          refine Fe LQ (.tmp 46) (.tmp 49) ?_ ?_ (base:=B) (n:=x.starts.length) (m:=1) (N:=x.starts.length+1) (v:=nC A3 x.starts.length c3) (src:=nC (w6,0) 1 1) (xs:=x.starts.flatMap Tk.cells) (news:=j.cells) ?_ ?_ ?_ ?_ ?_ ?_ ?_ ?_ ?_
          · rfl
          · rfl
          · rfl
          · rfl
          · exact a7.starts.alloc _
          · exact LM w6 _ _ _
          · rfl
          · unfold maxLen;omega
          · omega
          · simp;omega
          intro A6 c6 w7 q1 q2 P;have HG:=Hd (Vu a7 mX mV q1 P);have J:=a7.grown (B0 a7.starts) P.1;obtain⟨_,_,cA,_,_,_⟩:=J.cells;have vA:=J.frozen 3;clear q1 q2 P J)
        | (
          go_simp;go_at_call 162;refine HW.mono ?_;intro e w6 hx;obtain⟨rfl,p,C⟩:=hx;have an:=Hd p;have a7:=Hd (a6.Ay p (fun _ h=>h) C mV);obtain⟨_,_,d2,_,_,aj⟩:=C.cells;have v1:=C.frozen 3;have bc:w5.heap.size<=w6.heap.size:=p.size;clear p C))
      all_goals go_wp2
      all_goals refine bodyPost_ret (results_none rfl _ _ _) rfl ⟨(ae.next (an.mono (fun _ h=>.inl h))).next HG.2,?_⟩
      all_goals rw[a4.out]
      all_goals exact⟨rfl,_,_,_,HG.1⟩)
    | (
      have HW:=Hd (a6.A8.Nj 1 1 rfl a2);replace a5:=Hd (a5 a2);clear a2 a4
      go_region_dies
      all_goals (refine HW.mono ?_;rintro e w6 ⟨rfl,aq⟩;exact⟨rfl,ae.next (.AJ aq),by rw[a5.out];exact BW.of rfl rfl⟩))
  ·have a3:(t.k==8)=false:=by simp[h8]
   rw[a3]at H8;have HE:Hid (C0 x (t::r)=.error (DH (t::r))):=Hd (by simp[C0,U,h8]);clear h U h8 hk a3;go_enter Tryz.func120,Tryz.ntmps120
   go_wp2_with (first
    | (go_at_call 119;with_reducible refine H7.out.mono ?_;rintro e R ⟨rfl,i⟩;subst i)
    | (go_at_call 119;with_reducible refine H8.out.mono ?_;rintro e R ⟨rfl,i⟩;subst i)
    | (go_at_call 161;refine al.mono ?_;rintro e R ⟨rfl,i⟩;subst i))
   refine⟨rfl,Aj.refl _ _,?_⟩;rw[HE.out];exact BW.of rfl rfl
def IK{w:nS}{B i:Nat}{v:nU}(h:w.ownsRow B e size v n xs)(l:i<=B):w.ownsRow i e size v n xs:=by
 refine⟨h.1,?_⟩;rcases h.2 with p|⟨g,cap,j,rfl,o,rest⟩
 ·exact .inl p
 ·exact .inr ⟨g,cap,j,rfl,AY l o,rest⟩
structure GS where
 s:PS
 v:nU
def GS.cells(q:GS):List nU:=[q.v,nE nM q.s.p]
structure Br where
 left:Tk
 v:nU
 ss:List GS
def Br.cells(r:Br):List nU:=[nE nM r.left.k,nH (str r.left.s),nE nM r.left.p,r.v]
def Br.r(r:Br):PR:=⟨r.left,r.ss.map GS.s⟩
def Iw(w:nS)(B:Nat)(q:GS):Prop:=w.ownsRow B 216 3 q.v q.s.l.length (q.s.l.flatMap Tk.cells)
def IV(w:nS)(B:Nat)(r:Br):Prop:=w.ownsRow B 226 2 r.v r.ss.length (r.ss.flatMap GS.cells)/\∀q∈r.ss,Iw w B q
def Iw.Ay{w:nS}{B:Nat}{q:GS}(h:Iw w B q)(j:Aj X w w')(l:∀g,B<=g->g<w.heap.size->¬X g):Iw w' B q:=
 j.own h (fun g i=>l g (B0 h g i).1 (B0 h g i).2)
def IV.Ay{w:nS}{B:Nat}{r:Br}(h:IV w B r)(i:Aj X w w')(l:∀g,B<=g->g<w.heap.size->¬X g):IV w' B r:=
 ⟨i.own h.1 (fun g j=>l g (B0 h.1 g j).1 (B0 h.1 g j).2),fun q o=>(h.2 q o).Ay i l⟩
def QA:El Tryz.prog 221 226 2 32:=El.of (z:=.agg #[nC nK 0 0,nE nM 0]) Tryz.underlying221 mU rfl mT
def dF:El Tryz.prog 167 223 4 56:=El.of (z:=.agg #[nE nM 0,nH ⟨#[]⟩,nE nM 0,nC nK 0 0]) Tryz.underlying167 mU rfl mT
def Qj(y:nS)(A:Option Addr)(n c:Nat)(p:Int):Ba (y.alloc (nO #[nC A n c,p] 226)) (nC (y,0) 1 1) 1 2 [nC A n c,nE nM p]:=
 Ba.Ap (c:=1) (Ah.new y 226 #[nC A n c,p]) rfl mZ
structure G2(w:nS)(rb:Nat)(f1 f2 f3 f4 f5:nU)(tb:Option Nat)(bb:Nat)(t:Tk)(sv:nU)(ss:List GS)(rest:List Tk)(wr:nS):Prop where
 A8:Cm wr rb f1 f2 f3 f4 f5 tb rest
 Ap:Ah wr bb 223 #[t.k,nH (str t.s),t.p,sv]
 own:wr.ownsRow w 226 2 sv ss.length (ss.flatMap GS.cells)
 Hn:∀q∈ss,Iw wr w.heap.size q
 Ay:Aj (·=rb) w wr
 bb:w.heap.size<=bb
 rb:rb<w.heap.size
 tb:∀g,tb=nJ g->g<w.heap.size
namespace G2
variable {w wr:nS} {rb:Nat} {f1 f2 f3 f4 f5:nU} {tb:Option Nat} {bb:Nat} {t:Tk} {sv:nU} {ss:List GS} {rest:List Tk}
def later(h:G2 w rb f1 f2 f3 f4 f5 tb bb t sv ss rest wr){j:nS}{l:List Tk}(i:Aj (·=rb) wr j)(p:Cm j rb f1 f2 f3 f4 f5 tb l):G2 w rb f1 f2 f3 f4 f5 tb bb t sv ss l j:=by have J:=h.rb;have I:=h.bb;exact⟨p,i.Ap h.Ap mR,i.own h.own (CY h.own h.rb),fun q o=>(h.Hn q o).Ay i (fun g C _ e=>by omega),h.Ay.next i,h.bb,h.rb,h.tb⟩
def drew(h:G2 w rb f1 f2 f3 f4 f5 tb bb t sv ss rest wr):G2 w rb f1 f2 f3 f4 f5 tb bb t sv ss rest wr.drew:=h.later ((Aj.refl _ _).drew) h.A8.drew
def rel(h:G2 w rb f1 f2 f3 f4 f5 tb bb t sv ss rest wr){j:nS}{A:Option Addr}{c:Nat}(hn:A2=A2)
  (a2:Aj (·=rb) wr j) (p:Cm j rb f1 f2 f3 f4 f5 tb (rest.dropWhile Bj)) (a4:j.ownsRow wr 216 3 (nC A (BU rest).l.length c) (BU rest).l.length ((BU rest).l.flatMap Tk.cells))
  (r1:w2.ownsRow w 226 2 (nC A2 (ss.length+1) c2) (ss.length+1) (ss.flatMap GS.cells++[nC A (BU rest).l.length c,nE nM (BU rest).p]))
  (l:AI w [226] (j.alloc (nO #[nC A (BU rest).l.length c,nE nM (BU rest).p] 226)) w2) :
  G2 w rb f1 f2 f3 f4 f5 tb bb t (nC A2 (ss.length+1) c2) (ss++[⟨BU rest,nC A (BU rest).l.length c⟩]) (rest.dropWhile Bj) (w2.setCell (bb,3) (nC A2 (ss.length+1) c2)):=by
 have I:=h.later a2 p;have a5:=h.rb;have U:=h.bb;have a6:rb≠bb:=by omega
 have a7:w.heap.size<=wr.heap.size:=h.Ay.size;have J:Ah w2 bb 223 #[t.k,nH (str t.s),t.p,sv]:=l.Ap (I.Ap.alloc _) (.inr mT);have a3:Aj (·=rb) w w2:=(I.Ay.alloc _).keeps l;have a0:∀q,Iw j w.heap.size q->Iw (w2.setCell (bb,3) (nC A2 (ss.length+1) c2)) w.heap.size q:=by
  intro q i;have T:Iw w2 w.heap.size q:=l.own ((Aj.refl (fun _=>False) j).alloc _ |>.own i (fun _ _=>id)) (.inr mT);refine Ee T ?_ _;intro e;rcases Bg T with⟨C,_⟩|⟨b,c,C,_,_,_,_,a1,P⟩
  ·rw[C]at e;cases e
  ·rw[C]at e
   cases e
   exact Ah.Bh (t:=216) P J mT rfl
 refine⟨⟨?_,p.ended,p.ne⟩,by simpa using J.AW 3 _,?_,?_,a3.set (p:=⟨bb,3,nK⟩) (.inl U) _,U,a5,h.tb⟩
 ·obtain⟨lv,k1,k2,k3⟩:=p.ex
  refine⟨lv,(l.Ap (k1.alloc _) (.inr mT)).BC (by simpa using a6) _,?_,k3⟩;obtain⟨b,off,c,cs,rfl,R⟩:=k2;have hb:=h.tb b (by rw[<-k3];rfl);exact⟨b,off,c,cs,rfl,(l.Ap (R.Ap.alloc _) (.inl hb)).BC mX _,R.cap,R.cell⟩
 ·rw[show (ss++[⟨BU rest,nC A (BU rest).l.length c⟩]:List GS).length=ss.length+1 by simp,List.flatMap_append]
  refine Ee (by simpa [GS.cells] using r1) ?_ _;intro o;rcases Bg r1 with⟨e,_⟩|⟨b,c,e,_,_,_,_,a1,P⟩
  ·rw[e]at o;cases o
  ·rw[e]at o
   cases o
   exact Ah.Bh (t:=226) P J mT rfl
 ·intro q i
  rcases mA.1 i with i|i
  ·exact a0 q (I.Hn q i)
  ·rw[mS]at i
   subst i;exact a0 _ (IK a4 a7)
end G2
section
open Go.RowKit Go.Maps
def H0:Keyed Tryz.prog 9:=string_keyed Tryz.underlying9
def Ll(w:nS):(zeroValue 3).run Tryz.prog w=.ok (nE nM 0) w:=by kernel_rfl
def Cf(s:List UInt8):Lit:=.string s
def Ni(s:List UInt8):WideAt.IsKeyLit (Cf s):=by unfold Cf;simp[WideAt.IsKeyLit]
def Oh{a b:List UInt8}(h:Cf a=Cf b):a=b:=by unfold Cf at h;injection h
def I7(D:DataW Unit)(L:List (List UInt8)):Prop:=∀s,D.atKey (Cf s) (.lit (.int nM 0))=.lit (.int nM (L.count s))
def I7.start:I7 (.map []) []:=fun s=>rfl
def I7.next{D:DataW Unit}{L:List (List UInt8)}(h:I7 D L)(j:Maps.Tidy D)(s:List UInt8):I7 (D.put (Cf s) (.lit (.int nM (L.count s+1)))) (L++[s]):=by
 intro u;rw[List.count_append];by_cases e:u=s
 ·subst e
  rw[Maps.atKey_put_same j.isMap (Ni _)];simp
 ·rw[Maps.atKey_put_other (fun i=>e (Oh i)),h u]
  have:List.count u [s]=0:=by rw[List.count_eq_zero];simpa using e
  rw[this,Nat.add_zero]
def Dq{w:nS}{D:DataW Unit}(h:w.ownsMap Tryz.prog 9 (plainElem Tryz.prog 3) b n D)(l:Aj X w w')(o:¬X b):w'.ownsMap Tryz.prog 9 (plainElem Tryz.prog 3) b n D:=by obtain⟨j,clock,i,rest⟩:=h;exact⟨j,clock,(l.block b (aG.1 i).1 o).trans i,rest⟩
structure DM(w:nS)(B rb mb:Nat)(tb:Option Nat)(l:List Tk)(x:Bl)(dv kv sv rv:nU)(rs:List Br)(D:DataW Unit):Prop where
 By:Da w B rb rv (.map (nJ mb)) tb l x dv kv sv
 rules:w.ownsRow B 223 4 rv rs.length (rs.flatMap Br.cells)
 Hn:∀r∈rs,IV w B r
 map:w.ownsMap Tryz.prog 9 (plainElem Tryz.prog 3) mb rs.length D
 Li:I7 D (rs.map fun r=>r.left.s)
 NX:mb<B
 mr:mb≠rb
 lr:rs.length+l.length<=100000
def IV.past{w:nS}{B rb:Nat}{r:Br}{rv:nU}(h:IV w B r)(p:w.ownsRow B 223 4 rv n xs)(t:rb<B)(o:Aj (fun k=>k=rb\/rv.ownBlock=nJ k) w w'):IV w' B r:=by
 refine⟨o.own h.1 ?_,fun q l=>o.own (h.2 q l) ?_⟩
 ·rintro g i (rfl|j)
  ·exact CY h.1 t _ i rfl
  ·exact Gt p h.1 mT g j i
 ·rintro g i (rfl|j)
  ·exact CY (h.2 q l) t _ i rfl
  ·exact Gt p (h.2 q l) mT g j i
structure JK(w w7:nS)(B rb mb bb:Nat)(tb:Option Nat)(l:List Tk)(x:Bl)(dv kv sv rv:nU)(rs:List Br)(q:Br)(D:DataW Unit):Prop where
 By:Da w7 B rb rv (.map (nJ mb)) tb l x dv kv sv
 rules:w7.ownsRow B 223 4 rv (rs.length+1) ((rs++[q]).flatMap Br.cells)
 Hn:∀r∈rs++[q],IV w7 B r
 map:w7.ownsMap Tryz.prog 9 (plainElem Tryz.prog 3) mb rs.length D
 Ap:Ah w7 bb 223 #[q.left.k,nH (str q.left.s),q.left.p,q.v]
 Ay:Aj (fun k=>k=rb\/B<=k) w w7
def V8{w I T:nS}{B rb mb bb:Nat}{tb:Option Nat}{l rest:List Tk}{x:Bl}{dv kv sv rv bv:nU}{j:List Br}{D:DataW Unit}{t:Tk}{ss:List GS}{A6:Option Addr}{c6:Nat}
  (h:DM w B rb mb tb l x dv kv sv rv j D) (p:G2 w rb dv kv sv rv (.map (nJ mb)) tb bb t bv ss rest I) (hl:rest.length<=l.length)
  (r1:T.ownsRow B 223 4 (nC A6 (j.length+1) c6) (j.length+1) (j.flatMap Br.cells++[nE nM t.k,nH (str t.s),nE nM t.p,bv]))
  (r3:(I.alloc o).grownBy T rv.ownBlock/\((Value.slice A6 (j.length+1) c6).ownBlock=rv.ownBlock\/(Value.slice A6 (j.length+1) c6).ownBlock=nJ (I.alloc o).heap.size)) :
  JK w (T.setCell (rb,4) (nC A6 (j.length+1) c6)) B rb mb bb tb rest x dv kv sv (nC A6 (j.length+1) c6) j ⟨t,bv,ss⟩ D:=by
 have U:=h.By.EG;have a7:=p.bb;have a2:=h.By.bB;have i:Da I B rb rv (.map (nJ mb)) tb rest x dv kv sv:=h.By.Ay p.Ay (fun _ h=>h) p.A8 hl;have a1:I.ownsRow B 223 4 rv j.length (j.flatMap Br.cells):=p.Ay.own h.rules (CY h.rules U);have hX:Aj (fun k=>rv.ownBlock=nJ k) I T:=((Aj.refl _ I).alloc o).next (.Cy r3.1);have a0:∀k,rv.ownBlock=nJ k->B<=k:=fun k hk=>(B0 h.rules k hk).1
 have a4:∀k,rv.ownBlock=nJ k->k<w.heap.size:=fun k hk=>(B0 h.rules k hk).2
 have J:Aj (fun k=>k=rb\/rv.ownBlock=nJ k) I (T.setCell (rb,4) (nC A6 (j.length+1) c6)):=(hX.mono (fun a3 hi=>.inr hi)).set (p:=⟨rb,4,nK⟩) (.inr (.inl rfl)) _;have e1:¬rv.ownBlock=nJ rb:=fun e=>by have:=a0 _ e;omega
 have a6:Cm (T.setCell (rb,4) (nC A6 (j.length+1) c6)) rb dv kv sv (nC A6 (j.length+1) c6) (.map (nJ mb)) tb rest:=by
  obtain⟨lv,k1,k2,k3⟩:=p.A8.ex;refine⟨⟨lv,by simpa using(hX.Ap k1 e1).AW 4 _,k2.Ay J ?_,k3⟩,p.A8.ended,p.A8.ne⟩;intro g C;rw[k3]at C;rintro(rfl|R)
  ·exact p.A8.ne C
  ·have:=h.By.GA g C;have:=a0 g R;omega
 have a5:∀r∈j++[(⟨t,bv,ss⟩:Br)],IV I B r:=by
  intro r P;rcases mA.1 P with P|P
  ·exact(h.Hn r P).Ay p.Ay (fun g h1 _ e=>by omega)
  ·rw[mS]at P
   subst P;exact⟨IK p.own a2,fun q hq=>IK (p.Hn q hq) a2⟩
 have hT:Aj (fun k=>k=rb\/B<=k) I (T.setCell (rb,4) (nC A6 (j.length+1) c6)):=J.mono (fun a3 hi=>hi.imp id (a0 a3));refine⟨?_,?_,fun r P=>(a5 r P).past a1 U J,?_,?_,(p.Ay.mono (fun _ h=>.inl h)).next hT⟩
 ·refine⟨a6,J.own i.decl ?_,J.own i.marks ?_,J.own i.starts ?_,i.apart,i.EG,i.GA,AY i.bB J.size,i.ld,i.lm,i.ls⟩
  ·rintro g C (rfl|R)
   ·exact CY i.decl U _ C rfl
   ·exact Gt a1 i.decl mT g R C
  ·rintro g C (rfl|R)
   ·exact CY i.marks U _ C rfl
   ·exact Gt a1 i.marks mT g R C
  ·rintro g C (rfl|R)
   ·exact CY i.starts U _ C rfl
   ·exact Gt a1 i.starts mT g R C
 ·rw[List.flatMap_append]
  exact Ee (by simpa [Br.cells] using r1) (fun e=>CY r1 U _ e rfl) _
 ·refine Dq (Dq h.map p.Ay h.mr) J ?_
  rintro(e|e)
  ·exact h.mr e
  ·have:=a0 _ e;have:=h.NX;omega
 ·refine J.Ap p.Ap ?_
  rintro(rfl|e)
  ·have:=p.rb;omega
  ·have:=a4 _ e;omega
def Aj.of_map{w:nS}(h:w.grownBy w' (nJ b)):Aj (·=b) w w':=⟨h.os,h.tape,h.output,h.size,fun k i j=>h.block k i (fun e=>j (by injection e))⟩
def JK.last{w T p:nS}{B rb mb U:Nat}{tb:Option Nat}{l R:List Tk}{x:Bl}{t I J rv a3:nU}{j:List Br}{q:Br}{D:DataW Unit}
  (h0:DM w B rb mb tb R x t I J a3 j D) (hl:l.length<R.length) (h:JK w T B rb mb U tb l x t I J rv j q D) (hg:T.grownBy p (nJ mb))
  (hm:p.ownsMap Tryz.prog 9 (plainElem Tryz.prog 3) mb (j.length+1) (D.put (Cf q.left.s) (.lit (.int nM ((j.map fun r=>r.left.s).count q.left.s+1))))) :
  DM p B rb mb tb l x t I J rv (j++[q]) (D.put (Cf q.left.s) (.lit (.int nM ((j.map fun r=>r.left.s).count q.left.s+1))))/\Aj (fun k=>k=rb\/B<=k\/k=mb) w p:=by
 have i:=Aj.of_map hg;have o:=h0.NX;have a1:=h0.By.EG;have a4:=h0.lr;have a5:=h.By.A8.lt;refine⟨⟨?_,?_,fun r hr=>(h.Hn r hr).Ay i (fun g h1 _ e=>by omega),by simpa using hm,?_,o,h0.mr,mX⟩,(h.Ay.mono (fun a2 C=>C.imp id .inl)).next (i.mono (fun a2 C=>.inr (.inr C)))⟩
 ·exact⟨h.By.A8.Ay i (Ne.symm h0.mr) (fun g P e=>by
   subst e;obtain⟨lv,_,k2,k3⟩:=h.By.A8.ex;obtain⟨b,off,c,cs,rfl,a0⟩:=k2;rw[<-k3]at P;cases P
   obtain⟨es,clock,hb,_⟩:=h.map;have:=a0.Ap;unfold Ah at this;rw[hb]at this;cases this),i.own h.By.decl (CY h.By.decl o),i.own h.By.marks (CY h.By.marks o),i.own h.By.starts (CY h.By.starts o),h.By.apart,a1,h.By.GA,AY h.By.bB i.size,h.By.ld,h.By.lm,h.By.ls⟩
 ·rw[show (j++[q]).length=j.length+1 by simp]
  exact i.own h.rules (CY h.rules o)
 ·rw[Bz]
  exact h0.Li.next (h0.map.tidy H0) q.left.s
end
