/- The shelf's contracts of strings. -/
import Derived.Shelf.Strings.Search1
import Derived.Shelf.Strings.Search2
import Derived.Shelf.Strings.Search3
import Derived.Shelf.LaysM
import Derived.Shelf.Strings.Shaped
import Derived.Shelf.Strings.Prefix
import Derived.Test.YtlogpnoioimhjaaGreatDoorXac
import Derived.Lib.IndexMore
import Derived.Deep.LoopGhost
import Derived.BigRegion
import Derived.RegionDies
import Derived.Maps.Own
import Derived.Maps.OwnOps
import Derived.Maps.OwnSet
import Derived.Maps.Views
import Derived.StringKeys
set_option linter.all false
set_option maxRecDepth 100000
set_option maxHeartbeats 16000000
namespace Go.Proofs
open Go.Shelf
def Tryz.iP:Go.Shelf.Ren:=⟨fun|217=>131|266=>170|n=>n,fun|9=>9|5=>5|3=>3|n=>n,fun|n=>n⟩
def Tryz.jT:Go.Proofs.Lays.n217 Tryz.prog Tryz.iP:={
 mixed:=by kernel_rfl
 f217:=Tryz.func131.trans (congrArg some (by kernel_rfl))
 f266:=Tryz.func170.trans (congrArg some (by kernel_rfl))
 t3:=Tryz.underlying3
 a3:=Tryz.isAgg3
 z3:=Tryz.sizeOf3
 v3:=Tryz.zeroValue3
 t5:=Tryz.underlying5
 a5:=Tryz.isAgg5
 z5:=Tryz.sizeOf5
 v5:=Tryz.zeroValue5
 t9:=Tryz.underlying9
 a9:=Tryz.isAgg9
 z9:=Tryz.sizeOf9
 v9:=Tryz.zeroValue9}
open Go.RowKit Go.Lib in
def Tryz.stringslite_IndexByte(s:ByteArray)(c:Int)(w:World) :
 Calls Tryz.prog 131 #[.string s,.int .u8 c] w fun e w'=>e=.returned (.int .i64 (Lib.indexByte s.data.toList c.toNat.toUInt8))/\w'=w:=Any.stringslite_IndexByte Tryz.jT s c w
def Tryz.fQ:Go.Shelf.Ren:=⟨fun|143=>165|219=>194|217=>131|225=>206|224=>207|267=>208|266=>170|314=>220|n=>n,fun|9=>9|3=>3|4=>4|5=>5|46=>284|146=>317|51=>315|n=>n,fun|1=>2|n=>n⟩
def Tryz.Zs:Go.Proofs.Lays.n143 Tryz.prog Tryz.fQ:={
 mixed:=by kernel_rfl
 f143:=Tryz.func165.trans (congrArg some (by kernel_rfl))
 f217:=Tryz.func131.trans (congrArg some (by kernel_rfl))
 f219:=Tryz.func194.trans (congrArg some (by kernel_rfl))
 f224:=Tryz.func207.trans (congrArg some (by kernel_rfl))
 f225:=Tryz.func206.trans (congrArg some (by kernel_rfl))
 f266:=Tryz.func170.trans (congrArg some (by kernel_rfl))
 f267:=Tryz.func208.trans (congrArg some (by kernel_rfl))
 f314:=Tryz.func220.trans (congrArg some (by kernel_rfl))
 t3:=Tryz.underlying3
 a3:=Tryz.isAgg3
 z3:=Tryz.sizeOf3
 v3:=Tryz.zeroValue3
 t4:=Tryz.underlying4
 a4:=Tryz.isAgg4
 z4:=Tryz.sizeOf4
 v4:=Tryz.zeroValue4
 t5:=Tryz.underlying5
 a5:=Tryz.isAgg5
 z5:=Tryz.sizeOf5
 v5:=Tryz.zeroValue5
 t9:=Tryz.underlying9
 a9:=Tryz.isAgg9
 z9:=Tryz.sizeOf9
 v9:=Tryz.zeroValue9
 t46:=Tryz.underlying284
 a46:=Tryz.isAgg284
 z46:=Tryz.sizeOf284
 v46:=Tryz.zeroValue284
 t51:=Tryz.underlying315
 a51:=Tryz.isAgg315
 z51:=Tryz.sizeOf315
 v51:=Tryz.zeroValue315
 t146:=Tryz.underlying317
 a146:=Tryz.isAgg317
 z146:=Tryz.sizeOf317
 v146:=Tryz.zeroValue317
 g1:=by kernel_rfl}
open Go.RowKit Go.Lib in
def Tryz.strings_Index(s sub:ByteArray)(m:Int)(w:World)(hs:s.size<4294967281)(hm:w.cell? ⟨2,0,none⟩=some (.int .i64 m)) :
 Calls Tryz.prog 165 #[.string s,.string sub] w fun e w'=>e=.returned (.int .i64 (Lib.index s.data.toList sub.data.toList))/\w'=w:=Any.strings_Index Tryz.Zs s sub m w hs hm
def Tryz.XX:Go.Shelf.Ren:=⟨fun|99=>29|206=>50|n=>n,fun|9=>9|4=>4|3=>3|n=>n,fun|n=>n⟩
def Tryz.fK:Go.Proofs.Lays.n99 Tryz.prog Tryz.XX:={
 mixed:=by kernel_rfl
 f99:=Tryz.func29.trans (congrArg some (by kernel_rfl))
 f206:=Tryz.func50.trans (congrArg some (by kernel_rfl))
 t3:=Tryz.underlying3
 a3:=Tryz.isAgg3
 z3:=Tryz.sizeOf3
 v3:=Tryz.zeroValue3
 t4:=Tryz.underlying4
 a4:=Tryz.isAgg4
 z4:=Tryz.sizeOf4
 v4:=Tryz.zeroValue4
 t9:=Tryz.underlying9
 a9:=Tryz.isAgg9
 z9:=Tryz.sizeOf9
 v9:=Tryz.zeroValue9}
open Go.RowKit Go.Lib in
def Tryz.strings_HasPrefix(s p:ByteArray)(w:World) :
 Calls Tryz.prog 29 #[.string s,.string p] w fun e w'=>e=.returned (.bool (Lib.hasPrefix s.data.toList p.data.toList))/\w'=w:=Any.strings_HasPrefix Tryz.fK s p w
end Go.Proofs
namespace Go.Proofs.YtlogpnoioimhjaaGreatDoor
open Go.RowKit
variable{w' w2:World}{e:TypeId}{c2 n size sz:Nat}{C I U i:Value}{o:Obj}{T:List TypeId}{X:Nat->Prop}{j:Option Addr}{xs:List Value}
def Ni{p:UInt8->Bool}(c:UInt8)(l:List UInt8):Cg p (c::l)=if p c then Cg p l+1 else 0:=by unfold Cg;rw[List.takeWhile_cons];split<;>simp
def Nf(p:UInt8->Bool)(l:List UInt8):Cg p l<=l.length:=(List.takeWhile_sublist p).length_le
theorem kF(c:UInt8)(w:World):() 116 #[.int .u8 c.toNat] w fun e w'=>e=.returned (.bool (Cy c))/\w=w':=by
 have i:=Hd (NI c w);unfold Cy;generalize BH c=k at *;go_enter Tryz.func116,Tryz.ntmps116
 cases l:(k==4) with
 | true=>
  have p:((k:Int)==4)=true:=by rw[beq_iff_eq]at l ⊢;omega
  go_wp2_with (go_at_call 48;refine i.mono ?_;rintro e w' ⟨rfl,rfl⟩)
  go_ret;exact⟨rfl,rfl⟩
 | false=>
  have p:((k:Int)==4)=false:=by rw[bN]at l ⊢;omega
  have j:((k:Int)==3)=(k==3):=by rw[Bool.eq_iff_iff,beq_iff_eq,beq_iff_eq];omega
  have o:=Hd j;clear j;go_wp2_with (go_at_call 48;refine i.mono ?_;rintro e w' ⟨rfl,rfl⟩)
  go_ret;refine⟨?_,rfl⟩;rw[<-o.out];rfl
def WY(n:Int):Bool:=decide (0<=Lib.indexByte [32,9,10,13] n.toNat.toUInt8)
def YT:Ln.all (fun c=>WY c.toNat==FZ c)=true:=by kernel_rfl
def aF(c:UInt8):decide (0<=Lib.indexByte [32,9,10,13] (c.toNat:Int).toNat.toUInt8)=FZ c:=beq_iff_eq.1 (List.all_eq_true.1 YT c (LG c))
def cH(s:ByteArray)(c:Int)(w:World):() 93 #[.string s,.int .u8 c] w fun e w'=>e=.returned (.int .i64 (Lib.indexByte s.data.toList c.toNat.toUInt8))/\w'=w:=by
 have i:=Hd (Tryz.stringslite_IndexByte s c w);go_enter Tryz.func93,Tryz.ntmps93
 go_wp2_with (go_at_call 131;refine i.mono ?_;rintro e w' ⟨rfl,rfl⟩)
 go_ret;exact⟨rfl,rfl⟩
def PU(c:UInt8)(w:World):() 111 #[.int .u8 c.toNat] w fun e w'=>e=.returned (.bool (FZ c))/\w=w':=by
 have i:=Hd (cH ⟨#[32,9,10,13]⟩ c.toNat w);have j:=Hd (aF c);generalize Lib.indexByte (⟨#[32,9,10,13]⟩:ByteArray).data.toList (c.toNat:Int).toNat.toUInt8=k at *;go_enter Tryz.func111,Tryz.ntmps111
 go_wp2_with (go_at_call 93;refine i.mono ?_;rintro e w' ⟨rfl,rfl⟩)
 go_ret;refine⟨?_,rfl⟩;rw[<-j.out];rfl
def iL(c:UInt8)(w:World):() 117 #[.int .u8 c.toNat] w fun e w'=>e=.returned (.int .i64 (Jd c))/\w=w':=by
 have p:(c=58)=((c.toNat:Int)=58):=by rw[<-UInt8.toNat_inj];show (c.toNat=58)=_;rw[eq_iff_iff];omega
 have o:(c=124)=((c.toNat:Int)=124):=by rw[<-UInt8.toNat_inj];show (c.toNat=124)=_;rw[eq_iff_iff];omega
 have t:(c=59)=((c.toNat:Int)=59):=by rw[<-UInt8.toNat_inj];show (c.toNat=59)=_;rw[eq_iff_iff];omega
 unfold Jd;simp only[p,o,t];clear p o t;generalize (c.toNat:Int)=n;by_cases i:n=58
 ·subst i
  go_enter Tryz.func117,Tryz.ntmps117
  go_wp2;go_ret;exact⟨rfl,rfl⟩
 by_cases j:n=124
 ·subst j
  go_enter Tryz.func117,Tryz.ntmps117
  go_wp2;go_ret;exact⟨rfl,rfl⟩
 by_cases l:n=59
 ·subst l
  go_enter Tryz.func117,Tryz.ntmps117
  go_wp2;go_ret;exact⟨rfl,rfl⟩
 rw[if_neg i,if_neg j,if_neg l];have C:(n==58)=false:=bN.2 i;have I:(n==124)=false:=bN.2 j;have J:(n==59)=false:=bN.2 l;clear i j l;go_enter Tryz.func117,Tryz.ntmps117
 go_wp2;go_ret;exact⟨rfl,rfl⟩
def QU(s:ByteArray)(p k:Nat):Prop:=p+k<=s.size/\Cg FZ (s.data.toList.drop p)=k+Cg FZ (s.data.toList.drop (p+k))
def jV(s:ByteArray)(R:s.size<=4611686018427387904)(p:Nat)(P:p<=s.size)(w:World):() 112 #[.string s,p,.func (.func 111) #[] #[]] w fun e w'=>e=.returned (.int .i64 (Cg FZ (s.data.toList.drop p)))/\w=w':=by
 go_enter Tryz.func112,Tryz.ntmps112
 go_wp2
 go_loop [7] (fun n=>∃k:Nat,p+k<=s.size/\n=.int .i64 k/\Hid (QU s p k)) (fun n=>s.size-(intOf n).toNat)
 case atStart=>exact⟨0,by omega,rfl,Hd ⟨by omega,by simp⟩⟩
 case round=>
  obtain⟨k,J,rfl,t⟩:=hrel;by_cases I:p+k<s.size
  ·have C:=Hd (Iy s (p+k) I)
   have o:=Hd (PU s[p+k] w);cases j:FZ s[p+k] with
   | true=>
    rw[j]at o;have l:Hid (QU s p (k+1)):=Hd ⟨by omega,by have i:=t.2;rw[C.out,Ni,if_pos j]at i;rw[i];show k+(Cg FZ (s.data.toList.drop (p+k+1))+1)=k+1+Cg FZ (s.data.toList.drop (p+(k+1)));rw[Nat.add_assoc p k 1];omega⟩
    clear j;go_wp2_with (go_at_call 111;refine o.mono ?_;rintro e w' ⟨rfl,rfl⟩)
    go_round
    case rel=>exact⟨k+1,by omega,by go_num,l⟩
    case measure=>simp[intOf];omega
   | false=>
    rw[j]at o;have l:Hid (Cg FZ (s.data.toList.drop p)=k):=Hd (by have i:=t.2;rw[C.out,Ni,j]at i;simpa using i)
    clear j;go_wp2_with (go_at_call 111;refine o.mono ?_;rintro e w' ⟨rfl,rfl⟩)
    go_ret;exact⟨FW l.symm,rfl⟩
  ·have l:Hid (Cg FZ (s.data.toList.drop p)=k):=Hd (by
    have i:=t.2;rw[show s.data.toList.drop (p+k)=[] from List.drop_of_length_le (by simp;omega)]at i;simpa [Cg] using i)
   go_wp2;go_ret;exact⟨FW l.symm,rfl⟩
def UY(s:ByteArray)(p k:Nat):Prop:=p+k<=s.size/\Cg Cy (s.data.toList.drop p)=k+Cg Cy (s.data.toList.drop (p+k))
def Q2(s:ByteArray)(R:s.size<=4611686018427387904)(p:Nat)(P:p<=s.size)(w:World):() 112 #[.string s,p,.func (.func 116) #[] #[]] w fun e w'=>e=.returned (.int .i64 (Cg Cy (s.data.toList.drop p)))/\w=w':=by
 go_enter Tryz.func112,Tryz.ntmps112
 go_wp2
 go_loop [7] (fun n=>∃k:Nat,p+k<=s.size/\n=.int .i64 k/\Hid (UY s p k)) (fun n=>s.size-(intOf n).toNat)
 case atStart=>exact⟨0,by omega,rfl,Hd ⟨by omega,by simp⟩⟩
 case round=>
  obtain⟨k,J,rfl,t⟩:=hrel;by_cases I:p+k<s.size
  ·have C:=Hd (Iy s (p+k) I)
   have o:=Hd (kF s[p+k] w);cases j:Cy s[p+k] with
   | true=>
    rw[j]at o;have l:Hid (UY s p (k+1)):=Hd ⟨by omega,by have i:=t.2;rw[C.out,Ni,if_pos j]at i;rw[i];show k+(Cg Cy (s.data.toList.drop (p+k+1))+1)=k+1+Cg Cy (s.data.toList.drop (p+(k+1)));rw[Nat.add_assoc p k 1];omega⟩
    clear j;go_wp2_with (go_at_call 116;refine o.mono ?_;rintro e w' ⟨rfl,rfl⟩)
    go_round
    case rel=>exact⟨k+1,by omega,by go_num,l⟩
    case measure=>simp[intOf];omega
   | false=>
    rw[j]at o;have l:Hid (Cg Cy (s.data.toList.drop p)=k):=Hd (by have i:=t.2;rw[C.out,Ni,j]at i;simpa using i)
    clear j;go_wp2_with (go_at_call 116;refine o.mono ?_;rintro e w' ⟨rfl,rfl⟩)
    go_ret;exact⟨FW l.symm,rfl⟩
  ·have l:Hid (Cg Cy (s.data.toList.drop p)=k):=Hd (by
    have i:=t.2;rw[show s.data.toList.drop (p+k)=[] from List.drop_of_length_le (by simp;omega)]at i;simpa [Cg] using i)
   go_wp2;go_ret;exact⟨FW l.symm,rfl⟩
def GJ(k:Int)(i:(k==0)=false)(p:Int)(w:World):() 64 #[k,p] w fun e w'=>e=.returned (.iface 174 (w,0))/\w'=w.alloc (.cells #[k,p] 176):=by
 go_enter Tryz.func64,Tryz.ntmps64
 go_wp2;go_ret;exact⟨rfl,rfl⟩
def J2(w:World)(v:Value)(f:Bm):Prop:=∃b,v=.iface 174 (.pointer (some ⟨b,0,none⟩))/\Ah w b 176 #[f.1,f.2]
def J2.new(w:World)(e p:Nat):J2 (w.alloc (.cells #[e,p] 176)) (.iface 174 (w,0)) (e,p):=⟨_,rfl,Ah.new _ _ _⟩
def EE(w:World)(r:Except Bm (Nat×Nat))(e:Ending)(w':World):Prop:=
 Below w w w'/\match r with
 | .ok (k,n)=>e=.returned (.tuple #[n,.nilIface])
 | .error f=>∃v,e=.returned (.tuple #[.int .i64 0,v])/\J2 w' v f
def EE.err(w:World)(e p:Nat):EE w (.error (e,p)) (.returned (.tuple #[.int .i64 0,.iface 174 (w,0)])) (w.alloc (.cells #[e,p] 176)):=
 ⟨AG _ _,_,rfl,.new _ _ _⟩
def EE.Kz(w:World)(e p:Nat)(q:Int)(h:q=p):EE w (.error (e,p)) (.returned (.tuple #[.int .i64 0,.iface 174 (w,0)])) (w.alloc (.cells #[e,q] 176)):=by subst h;exact .err w e p
def EE.IT(w:World)(k n:Nat)(q:Int)(h:q=n):EE w (.ok (k,n)) (.returned (.tuple #[q,.nilIface])) w:=by subst h;exact⟨Below.refl _ _,rfl⟩
def cX(s:ByteArray)(p k:Nat)(h:p+(1+k)<s.size):(s.data.toList.drop (p+1))[k]?=some s[p+(1+k)]:=by rw[List.getElem?_drop,Nat.add_assoc];exact get_some s _ h
def aY(s:ByteArray)(hs:s.size<=4611686018427387904)(p:Nat)(hp:p<s.size)(w:World):() 114 #[.string s,p] w (EE w (J9 s.size p (s.data.toList.drop (p+1)))):=by
 have j:=Hd (NK s hs (p+1) (by omega) w);have hk:Bq (s.data.toList.drop (p+1))<s.size:=by have:=T8 (s.data.toList.drop (p+1));simp only[List.length_drop,Io]at this;omega
 have I:=cX s p (Bq (s.data.toList.drop (p+1)));unfold J9;generalize Bq (s.data.toList.drop (p+1))=k at *;generalize s.data.toList.drop (p+1)=r at *;have J:(p:Int)+1=((p+1:Nat):Int):=by omega
 rw[<-J]at j;have R:(p:Int)+(1+(k:Int))=((p+1+k:Nat):Int):=by omega
 by_cases t:s.size<=p+1+k
 ·rw[if_pos t]
  have q1:(s.size:Int)<=(p:Int)+(1+(k:Int)):=by omega
  clear I t J R;go_enter Tryz.func114,Tryz.ntmps114
  go_wp2_with fail
  refine j.mono ?_;rintro e i ⟨rfl,rfl⟩;go_wp2_with (go_at_call 64;refine(GJ _ rfl _ _).mono ?_;rintro e i ⟨rfl,rfl⟩)
  go_ret2
  exact EE.err _ _ _
 rw[if_neg t];have a0:p+(1+k)<s.size:=by omega
 have P:=I a0;rw[P];clear I P J R;have q1:¬(s.size:Int)<=(p:Int)+(1+(k:Int)):=by omega
 have q2:(p:Int)+(1+(k:Int))<(s.size:Int):=by omega
 by_cases l:s[p+(1+k)]=39
 ·have U:((s[p+(1+k)].toNat:Int) != 39)=false:=by rw[l];rfl
  rw[l];clear l;by_cases C:k=0
  ·subst C
   rw[if_pos (.inr rfl)];go_enter Tryz.func114,Tryz.ntmps114
   go_wp2_with fail
   refine j.mono ?_;rintro e i ⟨rfl,rfl⟩;go_wp2_with (go_at_call 64;refine(GJ _ rfl _ _).mono ?_;rintro e i ⟨rfl,rfl⟩)
   go_ret2
   exact EE.Kz _ 2 (p+1+0) _ (by omega)
  ·rw[if_neg (by rintro(h|h)<;>simp_all)]
   have h7:((1:Int)+(k:Int)==1)=false:=bN.2 (by omega);by_cases o:24<=1+k
   ·rw[if_pos o]
    have T:24<=(1:Int)+(k:Int):=by omega
    clear C o;go_enter Tryz.func114,Tryz.ntmps114
    go_wp2_with fail
    refine j.mono ?_;rintro e i ⟨rfl,rfl⟩;go_wp2_with (go_at_call 64;refine(GJ _ rfl _ _).mono ?_;rintro e i ⟨rfl,rfl⟩)
    go_ret2
    exact EE.err _ 5 p
   ·rw[if_neg o]
    have T:¬24<=(1:Int)+(k:Int):=by omega
    clear C o;go_enter Tryz.func114,Tryz.ntmps114
    go_wp2_with fail
    refine j.mono ?_;rintro e i ⟨rfl,rfl⟩;go_wp2
    go_ret2
    exact EE.IT _ 2 (k+2) _ (by omega)
 ·have U:((s[p+(1+k)].toNat:Int) != 39)=true:=by
   rw[bne_iff_ne];intro e;exact l (UInt8.toNat_inj.1 (by show s[p+(1+k)].toNat=39;omega))
  rw[if_pos (.inl (by simpa using l))];clear l;go_enter Tryz.func114,Tryz.ntmps114
  go_wp2_with fail
  refine j.mono ?_;rintro e i ⟨rfl,rfl⟩;go_wp2_with (go_at_call 64;refine(GJ _ rfl _ _).mono ?_;rintro e i ⟨rfl,rfl⟩)
  go_ret2
  exact EE.Kz _ 2 (p+1+k) _ (by omega)
def Gy(w:World):Prop:=∃m:Int,w.cell? (2,0)=some (.int .i64 m)
def Gy.later{w:World}(h:Gy w)(j:Below w w w'):Gy w':=by obtain⟨m,i⟩:=h;exact⟨m,(j.cell (p:=⟨2,0,none⟩) (World.block_lt_of_cell? w _ i)).trans i⟩
def Ow(s:ByteArray)(p:Nat):(s.extract p s.size).data.toList=s.data.toList.drop p:=by rw[Lib.extract_data];exact De (by simp)
theorem index_le(sub:List UInt8):∀(l:List UInt8),Lib.index l sub<=l.length
 | []=>by unfold Lib.index;split<;>simp
 | b::l=>by
  have i:=index_le sub l;unfold Lib.index;split
  ·exact Int.natCast_nonneg _
  ·split
   ·simp;omega
   ·rw[List.length_cons];omega
theorem TF(c d:UInt8)(r:List UInt8):Lib.hasPrefix (c::r) [c,d]=(r.head?==some d):=by
 unfold Lib.hasPrefix;cases r with
 | nil=>simp[List.isPrefixOf]
 | cons a l=>simp[List.isPrefixOf];exact Bool.beq_comm
def cK(s:ByteArray)(p:Nat):(s.data.toList.drop (p+1)).drop 1=s.data.toList.drop (p+2):=by rw[List.drop_drop]
def YK{s:ByteArray}{p:Nat}{c:UInt8}(h:(s.data.toList.drop (p+1)).head?=some c):p+1<s.size:=by rw[List.head?_drop]at h;have:=(sG.1 h).1;simpa using this
def ZM(s:ByteArray)(hs:s.size<=8192)(p:Nat)(hp:p<s.size)(P:s[p]=47)(w:World)(j:Gy w):() 113 #[.string s,p] w (EE w (JT s.size p (s.data.toList.drop (p+1)))):=by
 obtain⟨m,j⟩:=j;have a0:Lib.hasPrefix (s.extract p s.size).data.toList [47,42]=((s.data.toList.drop (p+1)).head?==some 42):=by rw[Ow,Iy s p hp,P,TF]
 have I:=Tryz.strings_HasPrefix (s.extract p s.size) ⟨#[47,42]⟩ w;rw[a0]at I;have l:=Hd I;clear I a0 P;have T:=cK s p;have t:=@YK s p 42;unfold JT;rw[T];clear T;generalize hr:(s.data.toList.drop (p+1)).head?=a1 at *;clear hr;by_cases o:a1=some 42
 ·subst o
  have a3:=t rfl;clear t;have U:(s.extract (p+2) s.size).data.toList=s.data.toList.drop (p+2):=Ow s (p+2);have C:=Tryz.strings_Index (s.extract (p+2) s.size) ⟨#[42,47]⟩ m w (by rw[ByteArray.size_extract];omega) j;rw[U]at C;have J:=Hd C;clear C U j;rw[if_pos rfl];generalize hk:Lib.index (s.data.toList.drop (p+2)) (⟨#[42,47]⟩:ByteArray).data.toList=k at *;have a2:k<=8192 /\ -1<=k:=by rw[<-hk];have h1:=index_le (⟨#[42,47]⟩:ByteArray).data.toList (s.data.toList.drop (p+2));have h2:=Lib.index_ge (s.data.toList.drop (p+2)) (⟨#[42,47]⟩:ByteArray).data.toList;rw[List.length_drop,Io]at h1;omega
  clear hk;by_cases h0:k<0
  ·rw[if_pos h0]
   go_enter Tryz.func113,Tryz.ntmps113
   go_wp2_with (first
    | (go_at_call 29;refine l.mono ?_;rintro e i ⟨rfl,rfl⟩)
    | (go_at_call 165;refine J.mono ?_;rintro e i ⟨rfl,rfl⟩)
    | (go_at_call 64;refine(GJ _ rfl _ _).mono ?_;rintro e i ⟨rfl,rfl⟩))
   go_ret2
   exact EE.err _ 4 _
  ·rw[if_neg h0]
   obtain⟨k1,k2⟩:=a2;go_enter Tryz.func113,Tryz.ntmps113
   go_wp2_with (first
    | (go_at_call 29;refine l.mono ?_;rintro e i ⟨rfl,rfl⟩)
    | (go_at_call 165;refine J.mono ?_;rintro e i ⟨rfl,rfl⟩)
    | (go_at_call 64;refine(GJ _ rfl _ _).mono ?_;rintro e i ⟨rfl,rfl⟩))
   go_ret2
   exact EE.IT _ 0 _ _ (by omega)
 ·rw[if_neg o]
  have R:(a1==some 42)=false:=by simpa using o
  rw[R]at l;clear o R t j;go_enter Tryz.func113,Tryz.ntmps113
  go_wp2_with (first
   | (go_at_call 29;refine l.mono ?_;rintro e i ⟨rfl,rfl⟩)
   | (go_at_call 64;refine(GJ _ rfl _ _).mono ?_;rintro e i ⟨rfl,rfl⟩))
  go_ret2
  exact EE.err _ 2 p
def Fe(w:World)(r:Except Bm (Nat×Nat))(e:Ending)(w':World):Prop:=
 Below w w w'/\match r with
 | .ok (k,n)=>e=.returned (.tuple #[k,n,.nilIface])
 | .error f=>∃(k:Int) (v:Value),e=.returned (.tuple #[k,.int .i64 0,v])/\J2 w' v f
def Fe.Kz(w:World)(e p:Nat)(k q:Int)(h:q=p):Fe w (.error (e,p)) (.returned (.tuple #[k,.int .i64 0,.iface 174 (w,0)])) (w.alloc (.cells #[e,q] 176)):=by subst h;exact⟨AG _ _,k,_,rfl,.new _ _ _⟩
def Fe.IT(w:World)(k n:Nat)(q:Int)(h:q=n):Fe w (.ok (k,n)) (.returned (.tuple #[k,q,.nilIface])) w:=by subst h;exact⟨Below.refl _ _,rfl⟩
def Ub(s:ByteArray)(p n:Nat):(s.extract p (p+n)).data.toList=(s.data.toList.drop p).take n:=by rw[Lib.extract_data,Nat.add_sub_cancel_left]
def Xd(s:ByteArray)(hs:s.size<=8192)(p:Nat)(hp:p<s.size)(i:s[p]=37)(w:World):() 115 #[.string s,p] w (Fe w (KE p (s.data.toList.drop (p+1)))):=by
 have U:Lib.hasPrefix (s.extract p s.size).data.toList [37,37]=((s.data.toList.drop (p+1)).head?==some 37):=by rw[Ow,Iy s p hp,i,TF]
 have J:=Tryz.strings_HasPrefix (s.extract p s.size) ⟨#[37,37]⟩ w;rw[U]at J;have o:=Hd J;clear J U i;unfold KE;by_cases i:(s.data.toList.drop (p+1)).head?=some 37
 ·rw[if_pos i]
  rw[show ((s.data.toList.drop (p+1)).head?==some 37)=true by rw[i];rfl]at o;clear i;go_enter Tryz.func115,Tryz.ntmps115
  go_wp2_with (go_at_call 29;refine o.mono ?_;rintro e l ⟨rfl,rfl⟩)
  go_ret3
  exact Fe.IT _ 6 2 _ rfl
 rw[if_neg i];rw[show ((s.data.toList.drop (p+1)).head?==some 37)=false by simpa using i]at o;clear i;have t:=Hd (Q2 s (by omega) (p+1) (by omega) w);have hk:Cg Cy (s.data.toList.drop (p+1))<=s.size-(p+1):=by have:=Nf Cy (s.data.toList.drop (p+1));simp only[List.length_drop,Io]at this;omega
 have I:=Ub s (p+1) (Cg Cy (s.data.toList.drop (p+1)));generalize Cg Cy (s.data.toList.drop (p+1))=k at *;rw[<-I];have C:(p:Int)+1=((p+1:Nat):Int):=by omega
 rw[<-C]at t;have b1:(p:Int)+1+(k:Int)<=(s.size:Int):=by omega
 have b2:p+1+k<=s.size:=by omega
 generalize P:s.extract (p+1) (p+1+k)=x at *;have j:x.toList=x.data.toList:=Lib.toList_data x;cases T:(x.toList==[116,111,107,101,110]) with
 | true=>
  rw[if_pos (by rw[<-j];exact beq_iff_eq.1 T)];subst P;clear j I C;go_enter Tryz.func115,Tryz.ntmps115
  go_wp2_with (first
   | (go_at_call 29;refine o.mono ?_;rintro e l ⟨rfl,rfl⟩)
   | (go_at_call 112;refine t.mono ?_;rintro e l ⟨rfl,rfl⟩))
  go_ret3
  exact Fe.IT _ 7 _ _ (by omega)
 | false=>
  rw[if_neg (by rw[<-j];simpa using T)];cases R:(x.toList==[115,116,97,114,116]) with
  | true=>
   rw[if_pos (by rw[<-j];exact beq_iff_eq.1 R)];subst P;clear j I C;go_enter Tryz.func115,Tryz.ntmps115
   go_wp2_with (first
    | (go_at_call 29;refine o.mono ?_;rintro e l ⟨rfl,rfl⟩)
    | (go_at_call 112;refine t.mono ?_;rintro e l ⟨rfl,rfl⟩))
   go_ret3
   exact Fe.IT _ 8 _ _ (by omega)
  | false=>
   rw[if_neg (by rw[<-j];simpa using R)];subst P;clear j I C;go_enter Tryz.func115,Tryz.ntmps115
   go_wp2_with (first
    | (go_at_call 29;refine o.mono ?_;rintro e l ⟨rfl,rfl⟩)
    | (go_at_call 112;refine t.mono ?_;rintro e l ⟨rfl,rfl⟩)
    | (go_at_call 64;refine(GJ _ rfl _ _).mono ?_;rintro e l ⟨rfl,rfl⟩))
   go_ret3
   exact Fe.Kz _ 2 p _ _ rfl
theorem EE.one{w:World}{r:Except Bm (Nat×Nat)}{e:Ending}(h:EE w r e w'):∃(n:Int) (v:Value),e=.returned (.tuple #[.int .i64 n,v]) /\
  ∀K:Nat,(∀k n,r=.ok (k,n)->k=K)->Fe w r (.returned (.tuple #[.int .i64 K,.int .i64 n,v])) w':=by
 obtain⟨i,h⟩:=h;cases r with
 | error f=>obtain⟨v,rfl,l⟩:=h;exact⟨0,v,rfl,fun K _=>⟨i,K,v,rfl,l⟩⟩
 | ok q=>obtain⟨k,n⟩:=q;exact⟨n,.nilIface,h,fun K j=>by obtain rfl:=j k n rfl;exact⟨i,rfl⟩⟩
def OB(c:UInt8)(n:Nat)(i:n<256):((c.toNat:Int)==(n:Int))=(c==UInt8.ofNat n):=by rw[Bool.eq_iff_iff,beq_iff_eq,beq_iff_eq,<-UInt8.toNat_inj];rw[UInt8.toNat_ofNat',Nat.mod_eq_of_lt i];omega
def eO{p:Nat}{r:List UInt8}:∀k n,J9 sz p r=.ok (k,n)->k=2:=by
 intro k n h;unfold J9 at h;split at h;· cases h
 split at h;· cases h
 split at h;· cases h
 injection h with h;exact(Prod.mk.inj h).1.symm
def gJ{p:Nat}{r:List UInt8}:∀k n,JT sz p r=.ok (k,n)->k=0:=by
 intro k n h;unfold JT at h;split at h
 ·split at h
  ·cases h
  ·injection h with h;exact(Prod.mk.inj h).1.symm
 ·cases h
theorem Y1(s:ByteArray)(hs:s.size<=8192)(p:Nat)(hp:p<s.size)(w:World)(hm:Gy w):() 84 #[.string s,p] w (Fe w (GK s.size p (s.data.toList.drop p))):=by
 have j:=Hd (PU s[p] w);have a2:=OB s[p] 47 (by decide);have T:=OB s[p] 39 (by decide);have J:=OB s[p] 37 (by decide);have hd:=Iy s p hp;unfold GK;rw[hd];simp only;rw[<-hd];clear hd;cases hw:FZ s[p] with
 | true=>
  rw[hw]at j;rw[if_pos rfl];have a1:=Hd (jV s (by omega) p (by omega) w);clear hw a2 T J;go_enter Tryz.func84,Tryz.ntmps84
  go_wp2_with (first
   | (go_at_call 111;refine j.mono ?_;rintro e i ⟨rfl,rfl⟩)
   | (go_at_call 112;refine a1.mono ?_;rintro e i ⟨rfl,rfl⟩))
  go_ret3
  exact Fe.IT _ 0 _ _ rfl
 | false=>
 rw[hw]at j;rw[if_neg (by decide)];clear hw;by_cases C:s[p]=47
 ·rw[if_pos C]
  have a7:((s[p].toNat:Int)==47)=true:=by rw[C];rfl
  have I:=Hd (ZM s hs p hp C w hm);clear a2 T J C;go_enter Tryz.func84,Tryz.ntmps84
  go_wp2_with (first
   | (go_at_call 111;refine j.mono ?_;rintro e i ⟨rfl,rfl⟩)
   | (go_at_call 113;refine I.mono ?_;intro e i l;obtain⟨n,v,rfl,a0⟩:=l.one;clear l;have o:=Hd (a0 0 gJ);clear a0))
  go_ret3
  exact o
 rw[if_neg C];have a7:((s[p].toNat:Int)==47)=false:=by rw[show ((s[p].toNat:Int)==47)=_ from a2];exact bN.2 C
 clear a2 C;by_cases P:s[p]=39
 ·rw[if_pos P]
  have a6:((s[p].toNat:Int)==39)=true:=by rw[P];rfl
  have I:=Hd (aY s (by omega) p hp w);clear T J P;go_enter Tryz.func84,Tryz.ntmps84
  go_wp2_with (first
   | (go_at_call 111;refine j.mono ?_;rintro e i ⟨rfl,rfl⟩)
   | (go_at_call 114;refine I.mono ?_;intro e i l;obtain⟨n,v,rfl,a0⟩:=l.one;clear l;have o:=Hd (a0 2 eO);clear a0))
  go_ret3
  exact o
 rw[if_neg P];have a6:((s[p].toNat:Int)==39)=false:=by rw[show ((s[p].toNat:Int)==39)=_ from T];exact bN.2 P
 clear T P;by_cases t:s[p]=37
 ·rw[if_pos t]
  have a5:((s[p].toNat:Int)==37)=true:=by rw[t];rfl
  have I:=Hd (Xd s hs p hp t w);clear J t;generalize KE p (s.data.toList.drop (p+1))=a8 at *;cases a8 with
  | ok q=>
   obtain⟨k,n⟩:=q;go_enter Tryz.func84,Tryz.ntmps84
   go_wp2_with (first
    | (go_at_call 111;refine j.mono ?_;rintro e i ⟨rfl,rfl⟩)
    | (go_at_call 115;refine I.mono ?_;intro e i l;obtain⟨hb,rfl⟩:=l;have o:=Hd hb;clear hb))
   go_ret3
   exact⟨o,rfl⟩
  | error f=>
   go_enter Tryz.func84,Tryz.ntmps84
   go_wp2_with (first
    | (go_at_call 111;refine j.mono ?_;rintro e i ⟨rfl,rfl⟩)
    | (go_at_call 115;refine I.mono ?_;intro e i l;obtain⟨hb,k,v,rfl,hv⟩:=l;have o:=Hd hb;have HV:=Hd hv;clear hb hv))
   go_ret3
   exact⟨o,_,_,rfl,HV⟩
 rw[if_neg t];have a5:((s[p].toNat:Int)==37)=false:=by rw[show ((s[p].toNat:Int)==37)=_ from J];exact bN.2 t
 clear J t;have R:=Hd (NI s[p] w);by_cases U:BH s[p]=4
 ·rw[if_pos U]
  rw[U]at R;clear U;have a1:=Hd (Q2 s (by omega) p (by omega) w);generalize Cg Cy (s.data.toList.drop p)=k at *;by_cases a3:24<k
  ·rw[if_pos a3]
   have a4:(24:Int)<(k:Int):=by omega
   clear a3;go_enter Tryz.func84,Tryz.ntmps84
   go_wp2_with (first
    | (go_at_call 111;refine j.mono ?_;rintro e i ⟨rfl,rfl⟩)
    | (go_at_call 48;refine R.mono ?_;rintro e i ⟨rfl,rfl⟩)
    | (go_at_call 112;refine a1.mono ?_;rintro e i ⟨rfl,rfl⟩)
    | (go_at_call 64;refine(GJ _ rfl _ _).mono ?_;rintro e i ⟨rfl,rfl⟩))
   go_ret3
   exact Fe.Kz _ 5 p _ _ rfl
  ·rw[if_neg a3]
   have a4:¬(24:Int)<(k:Int):=by omega
   clear a3;go_enter Tryz.func84,Tryz.ntmps84
   go_wp2_with (first
    | (go_at_call 111;refine j.mono ?_;rintro e i ⟨rfl,rfl⟩)
    | (go_at_call 48;refine R.mono ?_;rintro e i ⟨rfl,rfl⟩)
    | (go_at_call 112;refine a1.mono ?_;rintro e i ⟨rfl,rfl⟩))
   go_ret3
   exact Fe.IT _ 1 k _ rfl
 rw[if_neg U];have q4:((BH s[p]:Int)==4)=false:=bN.2 (by omega);clear U;have HS:=Hd (iL s[p] w);generalize BH s[p]=cl at *;by_cases h0:Jd s[p]=0
 ·rw[if_neg (by simpa using h0)]
  rw[h0]at HS;clear h0;go_enter Tryz.func84,Tryz.ntmps84
  go_wp2_with (first
   | (go_at_call 111;refine j.mono ?_;rintro e i ⟨rfl,rfl⟩)
   | (go_at_call 48;refine R.mono ?_;rintro e i ⟨rfl,rfl⟩)
   | (go_at_call 117;refine HS.mono ?_;rintro e i ⟨rfl,rfl⟩)
   | (go_at_call 64;refine(GJ _ rfl _ _).mono ?_;rintro e i ⟨rfl,rfl⟩))
  go_ret3
  exact Fe.Kz _ 2 p _ _ rfl
 ·rw[if_pos h0]
  generalize Jd s[p]=sg at *;have q0:((sg:Int) != 0)=true:=bne_iff_ne.2 (by omega);clear h0;go_enter Tryz.func84,Tryz.ntmps84
  go_wp2_with (first
   | (go_at_call 111;refine j.mono ?_;rintro e i ⟨rfl,rfl⟩)
   | (go_at_call 48;refine R.mono ?_;rintro e i ⟨rfl,rfl⟩)
   | (go_at_call 117;refine HS.mono ?_;rintro e i ⟨rfl,rfl⟩))
  go_ret3
  exact Fe.IT _ sg 1 _ rfl
theorem Te{p:Nat}{l:List UInt8}{k:Nat}(i:GK sz p l=.ok (k,n))(a0:sz=p+l.length):n<=l.length:=by
 unfold GK at i;cases l with
 | nil=>injection i with i;obtain⟨rfl,rfl⟩:=Prod.mk.inj i;simp
 | cons c r=>
  simp only at i;split at i
  ·injection i with i
   obtain⟨rfl,rfl⟩:=Prod.mk.inj i;exact Nf _ _
  split at i
  ·unfold JT at i
   split at i
   ·rename_i P
    split at i
    ·cases i
    ·rename_i h0
     injection i with i;obtain⟨rfl,rfl⟩:=Prod.mk.inj i;cases r with
     | nil=>cases P
     | cons d t=>
      simp only[List.drop_succ_cons,List.drop_zero]at h0 ⊢;have T:(Lib.index t [42,47]).toNat+2<=t.length:=by
       rcases Lib.index_spec t [42,47] with⟨C,_⟩|⟨a1,C,_,j,_⟩
       ·omega
       ·rcases Lib.occAt_room j with o|o
        ·rw[C];simpa using o
        ·cases o
      simp;omega
   ·cases i
  split at i
  ·unfold J9 at i
   split at i;· cases i
   split at i;· cases i
   rename_i j;split at i;· cases i
   injection i with i;obtain⟨rfl,rfl⟩:=Prod.mk.inj i;have I:r[Bq r]?=some 39:=by
    by_cases h:r[Bq r]?=some 39
    ·exact h
    ·exact absurd (.inl h) j
   have R:Bq r<r.length:=(sG.1 I).1;simp;omega
  split at i
  ·have U:=Nf Cy r
   unfold KE at i;split at i
   ·rename_i J
    injection i with i;obtain⟨rfl,rfl⟩:=Prod.mk.inj i;cases r with
    | nil=>cases J
    | cons d t=>simp
   split at i
   ·injection i with i;obtain⟨rfl,rfl⟩:=Prod.mk.inj i;simp;omega
   split at i
   ·injection i with i;obtain⟨rfl,rfl⟩:=Prod.mk.inj i;simp;omega
   ·cases i
  split at i
  ·split at i
   ·cases i
   injection i with i;obtain⟨rfl,rfl⟩:=Prod.mk.inj i;exact Nf _ _
  split at i
  ·injection i with i
   obtain⟨rfl,rfl⟩:=Prod.mk.inj i;simp
  ·cases i
def Tk.cells(t:Tk):List Value:=[.int .i64 t.k,.string (str t.s),.int .i64 t.p]
def Tk.MB(t:Tk):t.cells.length=3:=rfl
def LX:El Tryz.prog 132 173 3 32:=El.of (z:=.agg #[.int .i64 0,.string ⟨#[]⟩,.int .i64 0]) Tryz.underlying132 (by kernel_rfl) rfl (by decide)
def Ma(y:World)(a c:Int)(b:ByteArray):AY (y.alloc (.cells #[a,.string b,c] 173)) (.slice (y,0) 1 1) 1 3 [.int .i64 a,.string b,.int .i64 c]:=
 AY.Ap (c:=1) (Ah.new y 173 #[a,.string b,c]) rfl (by simp[Value.oneCell'])
def PZ{B:Nat}{i:World}(h:AI B T (i.alloc o) w2)(j:B<=i.heap.size):Below B i w2:=
 ((AG i o).mono j).trans (h.below (by simp;omega))
def Qe(i:List Tk):Except Bm (List Tk)->Except Bm (List Tk)
 | .ok j=>.ok (i++j)
 | .error e=>.error e
def Hf(s:ByteArray)(p:Nat)(i:List Tk):Prop:=∃f,s.size-p<f/\Fg s.size (s.size+1) 0 s.data.toList=Qe i (Fg s.size f p (s.data.toList.drop p))
def Hf.start(s:ByteArray):Hf s 0 []:=⟨s.size+1,by omega,by rw[List.drop_zero];generalize Fg s.size (s.size+1) 0 s.data.toList=r;cases r<;>rfl⟩
theorem Hf.last{s:ByteArray}{p:Nat}{i:List Tk}(h:Hf s p i)(j:p=s.size):Fg s.size (s.size+1) 0 s.data.toList=.ok (i++[⟨0,[],s.size⟩]):=by
 obtain⟨f,l,h⟩:=h;subst j;rw[h,LU];cases f with
 | zero=>omega
 | succ f=>rfl
theorem Hf.step{s:ByteArray}{p:Nat}{o:List Tk}(h:Hf s p o)(T:p<s.size) :
  match GK s.size p (s.data.toList.drop p) with
  | .error e=>Fg s.size (s.size+1) 0 s.data.toList=.error e
  | .ok (k,n)=>0<n/\p+n<=s.size/\Hf s (p+n) (if k=0 then o else o++[⟨k,(s.data.toList.drop p).take n,p⟩]):=by
 obtain⟨f,R,h⟩:=h;have t:(s.data.toList.drop p).length=s.size-p:=by rw[List.length_drop,Io]
 cases f with
 | zero=>omega
 | succ f=>
  have C:(s.data.toList.drop p).isEmpty=false:=by
   cases J:s.data.toList.drop p with
   | nil=>rw[J]at t;simp at t;omega
   | cons a l=>rfl
  cases j:GK s.size p (s.data.toList.drop p) with
  | error e=>simp only;rw[h];simp only[Fg,C,j];rfl
  | ok q=>
   obtain⟨k,n⟩:=q;simp only;have I:=(Pn j).2 (by omega);have P:=Te j (by omega);refine⟨I,by omega,f,by omega,?_⟩;rw[h];simp only[Fg,C,j];rw[List.drop_drop];cases Fg s.size f (p+n) (s.data.toList.drop (p+n)) with
   | error e=>rfl
   | ok U=>
    simp only[Qe];by_cases i:k=0
    ·rw[if_pos i,if_pos i];rfl
    ·rw[if_neg i,if_neg i];simp
def dD(w:World)(r:Except Bm (List Tk))(e:Ending)(w':World):Prop:=
 Below w w w'/\match r with
 | .ok i=>∃v,e=.returned (.tuple #[v,.nilIface])/\w'.ownsRow w 173 3 v i.length (i.flatMap Tk.cells)
 | .error f=>∃v,e=.returned (.tuple #[.slice none 0 0,v])/\J2 w' v f
def eP(s:ByteArray)(hs:s.size<=4611686018427387904)(w:World)(hm:Gy w):() 62 #[.string s] w (dD w (tokens s.data.toList)):=by
 unfold tokens;rw[Io];by_cases T:8192<s.size
 ·rw[if_pos T]
  have q1:(8192:Int)<(s.size:Int):=by omega
  clear T;go_enter Tryz.func62,Tryz.ntmps62
  go_wp2;go_step3
  go_wp2_with (go_at_call 64;refine(GJ _ rfl _ _).mono ?_;rintro e w' ⟨rfl,rfl⟩)
  rw[Exit.noGoto_ret]
  go_ret2
  exact⟨AG _ _,_,rfl,J2.new w 5 0⟩
 rw[if_neg T];have q1:¬(8192:Int)<(s.size:Int):=by omega
 have aa:s.size<=8192:=by omega
 have HM:=Hd hm;clear T hm;go_enter Tryz.func62,Tryz.ntmps62
 go_wp2;go_step3
 go_wp2;go_step3
 go_wp2;go_loopw [4,5] (fun v a3 wr=>∃(p:Nat) (i:List Tk),p<=s.size/\a3=.int .i64 p/\i.length<=p/\(∃A c,v=.slice A i.length c)/\Hid (wr.ownsRow w 173 3 v i.length (i.flatMap Tk.cells))/\Hid (Below w w wr)/\Hid (Hf s p i)) (fun _ a3 _=>s.size-(intOf a3).toNat)
 case atStart=>exact⟨0,[],AX _,rfl,AF _,⟨none,0,rfl⟩,Hd (World.ownsRow_nil _ _ _ _),Hd (Below.refl _ _),Hd (Hf.start s)⟩
 case round=>
  obtain⟨p,i,hp,rfl,ad,⟨A,c,rfl⟩,HO,j,HT⟩:=hrel;by_cases a4:p<s.size
  ·have a9:¬(s.size:Int)<=(p:Int):=by omega
   have C:=Hd (Y1 s aa p a4 wr (HM.later j));have I:=HT.step a4;cases U:GK s.size p (s.data.toList.drop p) with
   | error f=>
    rw[U]at C I;have HS:=Hd I;clear I U;go_wp2_with (go_at_call 84;refine C.mono ?_;intro e w1 J;obtain⟨l,k,v,rfl,hv⟩:=J;obtain⟨b,rfl,t⟩:=hv;have o:=Hd l;have HV:=Hd t;clear l t)
    go_ret2
    rw[HS.out];exact⟨j.trans (o.mono j.size),_,rfl,_,rfl,HV⟩
   | ok q=>
    obtain⟨k,n⟩:=q;rw[U]at C I;obtain⟨ae,af,a5⟩:=I;have HN:=Hd a5;have b1:(p:Int)+(n:Int)<=(s.size:Int):=by omega
    have a6:str ((s.data.toList.drop p).take n)=s.extract p (p+n):=by rw[<-Ub,WS]
    have a8:=Hd a6;clear U a5 a6;by_cases t:k=0
    ·subst t
     have a1:Hid (Hf s (p+n) i):=Hd HN;go_wp2_with (go_at_call 84;refine C.mono ?_;intro e w1 J;obtain⟨l,rfl⟩:=J;have o:=Hd l;clear l)
     go_roundw
     case rel=>exact⟨p+n,i,by omega,by go_num,by omega,⟨_,_,rfl⟩,Hd ((AI.AJ (B:=0) (T:=[]) o).own HO (.inr (by simp))),Hd (j.trans (o.mono j.size)),a1⟩
     case measure=>simp[intOf];omega
    ·have a1:Hid (Hf s (p+n) (i++[⟨k,(s.data.toList.drop p).take n,p⟩])):=Hd (by have:=HN.out;rw[if_neg t]at this;exact this)
     have q0:((k:Int) != 0)=true:=bne_iff_ne.2 (by omega);clear t;go_wp2_with (first
      | (go_at_call 84;refine C.mono ?_;intro e w1 J;obtain⟨l,rfl⟩:=J;have o:=Hd l;have a7:=Hd ((AI.AJ (B:=0) (T:=[]) l).own HO (.inr (by simp)));have ab:=j.size;have ag:=l.size;clear l)
      | (at_builtin;refine Dc LX (.tmp 29) (.tmp 39) rfl rfl (base:=w.heap.size) (n:=i.length) (m:=1) (N:=i.length+1) (xs:=i.flatMap Tk.cells) (news:=[.int .i64 k,.string (s.extract p (p+n)),.int .i64 p]) rfl rfl (a7.alloc _) (Ma w1 _ _ _) rfl (by unfold maxLen;omega) (by omega) (by simp;omega) ?_;intro A2 c2 w2 P R r3;have a2:=Hd P;have a0:=Hd (PZ R (by omega));clear P R r3))
     go_roundw
     case rel=>refine⟨p+n,i++[⟨k,(s.data.toList.drop p).take n,p⟩],by omega,by go_num,by simp;omega,⟨A2,c2,by simp⟩,Hd ?_,Hd ((j.trans (o.mono j.size)).trans a0),a1⟩;have:=a2.out;rw[<-a8.out]at this;simpa [Tk.cells] using this
     case measure=>simp[intOf];omega
  ·have a9:(s.size:Int)<=(p:Int):=by omega
   obtain rfl:p=s.size:=by omega
   have HL:=Hd (HT.last rfl);have ab:=j.size;go_wp2_with (at_builtin;refine Dc LX (.tmp 44) (.tmp 48) rfl rfl (base:=w.heap.size) (n:=i.length) (m:=1) (N:=i.length+1) (xs:=i.flatMap Tk.cells) (news:=[.int .i64 0,.string ⟨#[]⟩,.int .i64 s.size]) rfl rfl (HO.alloc _) (Ma wr _ _ _) rfl (by unfold maxLen;omega) (by omega) (by simp;omega) ?_;intro A2 c2 w2 P R r3;have a2:=Hd P;have a0:=Hd (PZ R (by omega));clear P R r3)
   rw[Exit.noGoto_ret]
   go_ret2
   rw[HL.out];refine⟨j.trans a0,_,rfl,?_⟩;have:=a2.out;simpa [Tk.cells,str] using this
def BW(f:Bm)(e:Ending):Prop:=e=.panicked [{v:=.iface 136 (.agg #[f.1,f.2]),recovered:=false}]
def Ep(k p:Int)(w:World):() 124 #[k,p] w fun e w'=>e=.panicked [{v:=.iface 136 (.agg #[k,p]),recovered:=false}]/\w=w':=by
 go_enter Tryz.func124,Tryz.ntmps124
 go_wp2;exact⟨rfl,rfl,rfl⟩
def BW.of{k p:Int}{f:Bm}(i:k=f.1)(j:p=f.2):BW f (.panicked [{v:=.iface 136 (.agg #[k,p]),recovered:=false}]):=by subst i;subst j;rfl
structure Kl(w:World)(b off c:Nat)(cs:Array Value)(l:List Tk):Prop where
 Ap:Ah w b 173 cs
 cap:l.length<=c/\c<=maxLen
 cell:∀k t,l[k]?=some t->cs[off+k*3]?=some (.int .i64 t.k)/\cs[off+k*3+1]?=some (.string (str t.s))/\cs[off+k*3+2]?=some (.int .i64 t.p)
variable{b:Nat}{cs:Array Value}
def Fa(w:World)(v:Value)(l:List Tk):Prop:=∃b off c i,v=.slice (some ⟨b,off,none⟩) l.length c/\Kl w b off c i l
def Fa.AE{w:World}{v:Value}{l:List Tk}(h:Fa w v l)(j:Aj X w w')(o:∀g,v.ownBlock=some g->¬X g):Fa w' v l:=by obtain⟨b,off,c,i,rfl,h⟩:=h;exact⟨b,off,c,i,rfl,j.Ap h.Ap (o b rfl),h.cap,h.cell⟩
def Fa.lt{w:World}{v:Value}{l:List Tk}(h:Fa w v l):∀g,v.ownBlock=some g->g<w.heap.size:=by
 obtain⟨b,off,c,j,rfl,h⟩:=h;intro g i;cases i
 exact h.Ap.lt
def Kl.tail{w:World}{off c:Nat}{t:Tk}{r:List Tk}(h:Kl w b off c cs (t::r)):Kl w b (off+3) (c-1) cs r where
 Ap:=h.Ap
 cap:=by have:=h.cap;simp at this;omega
 cell k u i:=by have:=h.cell (k+1) u i;rw[show off+3+k*3=off+(k+1)*3 by omega];exact this
def Kl.head{w:World}{off c:Nat}{t:Tk}{r:List Tk}(h:Kl w b off c cs (t::r)) :
  w.cell? (b,off)=some (.int .i64 t.k)/\w.cell? (b,off+1)=some (.string (str t.s))/\w.cell? (b,off+2)=some (.int .i64 t.p):=by
 have:=h.cell 0 t rfl;rw[h.Ap.cell,h.Ap.cell,h.Ap.cell];simpa using this
def KR{w:World}{rb:Nat}{j:Value}{t:Tk}{r:List Tk}(h0:w.cell? (rb,0)=some j)(o:Fa w j (t::r))(k:Nat):() 85 #[(rb,0),k] w fun e w'=>e=.returned (.bool (t.k==k))/\w'=w:=by
 obtain⟨b,off,c,C,rfl,h⟩:=o;obtain⟨p,_,_⟩:=h.head;have i:((t.k:Int)==(k:Int))=(t.k==k):=by rw[Bool.eq_iff_iff,beq_iff_eq,beq_iff_eq];omega
 have l:=Hd i;have I:(0:Int)<((t::r).length:Int):=by rw[List.length_cons];omega
 generalize (t::r).length=n at *;clear h i;go_enter Tryz.func85,Tryz.ntmps85
 go_wp2;go_ret;exact⟨CI l,rfl⟩
theorem Th{w:World}{rb:Nat}{o:Value}{t:Tk}{r:List Tk}(h0:w.cell? (rb,0)=some o)(l:Fa w o (t::r)):() 118 #[(rb,0)] w fun e w'=>e=.returned (.bool (Bg t))/\w'=w:=by
 have i:=Hd (KR h0 l 1);have p:=Hd (KR h0 l 2);unfold Bg;clear h0 l;cases j:(t.k==1) with
 | true=>
  rw[j]at i;clear j;go_enter Tryz.func118,Tryz.ntmps118
  go_wp2_with (go_at_call 85;refine i.mono ?_;rintro e w' ⟨rfl,rfl⟩)
  go_ret;exact⟨rfl,rfl⟩
 | false=>
  rw[j]at i;clear j;go_enter Tryz.func118,Tryz.ntmps118
  go_wp2_with fail
  refine i.mono ?_;rintro e w' ⟨rfl,rfl⟩;go_wp2_with fail
  refine p.mono ?_;rintro e w' ⟨rfl,rfl⟩;go_wp2;go_ret;exact⟨by simp,rfl⟩
def Qh{w:World}{rb:Nat}{p:Value}{t:Tk}{r:List Tk}(h0:w.cell? (rb,0)=some p)(o:Fa w p (t::r)):() 119 #[(rb,0)] w fun e w'=>BW (DH (t::r)) e/\w'=w:=by
 have j:=Hd (KR h0 o 0);obtain⟨b,off,c,C,rfl,h⟩:=o;obtain⟨_,_,c2⟩:=h.head;have I:(0:Int)<((t::r).length:Int):=by rw[List.length_cons];omega
 have l:DH (t::r)=(if t.k=0 then 4 else 3,t.p):=rfl;rw[l];clear h l;generalize (t::r).length=n at *;by_cases i:t.k=0
 ·rw[if_pos i]
  rw[show (t.k==0)=true by simp[i]]at j;clear i;go_enter Tryz.func119,Tryz.ntmps119
  go_wp2_with (first
   | (go_at_call 85;refine j.mono ?_;rintro e w' ⟨rfl,rfl⟩)
   | (go_at_call 124;refine(Ep _ _ _).mono ?_;rintro e w' ⟨rfl,rfl⟩))
  exact⟨rfl,BW.of rfl rfl,rfl⟩
 ·rw[if_neg i]
  rw[show (t.k==0)=false by simp[i]]at j;clear i;go_enter Tryz.func119,Tryz.ntmps119
  go_wp2_with (first
   | (go_at_call 85;refine j.mono ?_;rintro e w' ⟨rfl,rfl⟩)
   | (go_at_call 124;refine(Ep _ _ _).mono ?_;rintro e w' ⟨rfl,rfl⟩))
  exact⟨rfl,BW.of rfl rfl,rfl⟩
def Tk.val(t:Tk):Value:=.agg #[t.k,.string (str t.s),t.p]
def MY(w:World)(rb:Nat)(j l o p C:Value)(I:Value)(t:Tk)(r:List Tk)(e:Ending)(w':World):Prop:=
 e=.returned t.val/\Aj (·=rb) w w'/\∃i,Ah w' rb 142 #[i,j,l,o,p,C]/\Fa w' i r/\i.ownBlock=I.ownBlock
def Pe{w:World}{rb:Nat}{o p J j:Value}{t:Tk}{r:List Tk}(i:Ah w rb 142 #[j,o,p,C,I,J])(hl:Fa w j (t::r))(T:r≠[])(R:j.ownBlock≠some rb):() 87 #[(rb,0)] w (MY w rb o p C I J j t r):=by
 obtain⟨b,off,c,cs,rfl,h⟩:=hl;obtain⟨c0,c1,c2⟩:=h.head;have a2:b≠rb:=fun e=>R (by rw[e];rfl)
 have a1:=i.cell 0;have a5:=i.frozen 0;simp at a1;have a6:=i.lt;have a7:=h.Ap.lt;have hT:=Hd h;have P:=h.cap;have a8:0<r.length:=List.length_pos_iff.2 T;simp only[List.length_cons]at P;have U:=Hd i;clear h i T R;obtain⟨a4,a3⟩:=P;unfold maxLen at a3;rw[show (t::r).length=r.length+1 from rfl];have q1:¬c=1:=by omega
 have q2:(0:Int)<(r.length:Int)+1:=by omega
 have q3:(1:Int)<=(r.length:Int)+1:=by omega
 have q4:(r.length:Int)+1<=(c:Int):=by omega
 go_enter Tryz.func87,Tryz.ntmps87
 go_wp2;refine bodyPost_ret (v:=t.val) (by simp[results,Tryz.results87,go_sem,Tk.val]) rfl ⟨rfl,?_,?_⟩
 ·exact(((Aj.refl (·=rb) w).set (p:=⟨rb,0,none⟩) (.inr rfl) _).alloc _).alloc _
 ·have a0:=(((U.Be 0 (.slice (b,off+3) r.length (c-1))).alloc (.cells #[t.k,.string (str t.s),t.p] 173)).alloc (.cells #[t.k,.string (str t.s),t.p] 173))
  refine⟨_,by simpa using a0,⟨b,off+3,c-1,cs,rfl,?_⟩,rfl⟩;have l:=hT.tail;exact⟨((l.Ap.BA (p:=⟨rb,0,none⟩) (by simpa using a2) _).alloc _).alloc _,l.cap,l.cell⟩
def fI{w:World}{rb:Nat}{p:Value}{t:Tk}{r:List Tk}(h0:w.cell? (rb,0)=some p)(I:Fa w p (t::r))(k:Nat)(C:(t.k==k)=false):() 120 #[(rb,0),k] w fun e w'=>BW (DH (t::r)) e/\Below w w w':=by
 have l:=AG w (.cells #[.int .i64 0,.string ⟨#[]⟩,.int .i64 0] 173);have i:=(l.cell (p:=⟨rb,0,none⟩) (World.block_lt_of_cell? w _ h0)).trans h0;have o:Fa (w.alloc (.cells #[.int .i64 0,.string ⟨#[]⟩,.int .i64 0] 173)) p (t::r):=I.AE (X:=fun _=>False) (.AJ l) (fun _ _ h=>h);have j:=KR i o k;rw[C]at j;have J:=Hd j;have P:=Hd (Qh i o);clear h0 I i o j C l;go_enter Tryz.func120,Tryz.ntmps120
 go_wp2_with (first
  | (go_at_call 85;refine J.mono ?_;rintro e w' ⟨rfl,rfl⟩)
  | (go_at_call 119;refine P.mono ?_;intro e w' R;obtain⟨rfl,rfl⟩:=R))
 exact⟨rfl,BW.of rfl rfl,AG _ _⟩
def Xk{w:World}{rb:Nat}{f2 f3 f4 f5 o:Value}{t:Tk}{r:List Tk}(I:Ah w rb 142 #[o,U,f2,f3,f4,f5])(l:Fa w o (t::r))(hr:r≠[])(j:o.ownBlock≠some rb)(k:Nat)(hk:(t.k==k)=true):() 120 #[(rb,0),k] w (MY w rb U f2 f3 f4 f5 o t r):=by
 have C:=AG w (.cells #[.int .i64 0,.string ⟨#[]⟩,.int .i64 0] 173);have J:=I.alloc (.cells #[.int .i64 0,.string ⟨#[]⟩,.int .i64 0] 173);have T:Fa (w.alloc (.cells #[.int .i64 0,.string ⟨#[]⟩,.int .i64 0] 173)) o (t::r):=l.AE (X:=fun _=>False) (.AJ C) (fun _ _ h=>h);have p:=KR (J.cell 0) T k;rw[hk]at p;have H1:=Hd p;have H2:=Hd (Pe J T hr j);have a2:=I.lt;have HA:=Hd C;have a1:=Hd l.lt;clear I l hr j J T p hk C;go_enter Tryz.func120,Tryz.ntmps120
 go_wp2_with (first
  | (go_at_call 85;refine H1.mono ?_;rintro e w' ⟨rfl,rfl⟩)
  | (go_at_call 87;refine H2.mono ?_;intro e w1 hx;obtain⟨rfl,R,a0⟩:=hx;have HC:=Hd R;have HX:=Hd a0;have i:=(R.block w.heap.size (by simp) (by omega)).trans (Ah.new w 173 #[.int .i64 0,.string ⟨#[]⟩,.int .i64 0]);have HK:=Hd i;have j0:=Ah.cell i 0;have j1:=Ah.cell i 1;have j2:=Ah.cell i 2;have i0:=Ah.frozen i 0;have i1:=Ah.frozen i 1;have i2:=Ah.frozen i 2;clear R a0 i;simp at j0 j1 j2;unfold Tk.val))
 refine bodyPost_ret (v:=t.val) (by simp[results,Tryz.results120,go_sem,Tk.val,j0,j1,j2]) rfl ⟨rfl,?_,?_⟩
 ·exact(((((Aj.refl (·=rb) w).alloc _).next HC).set (p:=⟨w.heap.size,0,none⟩) (.inl (AF _)) _).set (p:=⟨w.heap.size,1,none⟩) (.inl (AF _)) _).set (p:=⟨w.heap.size,2,none⟩) (.inl (AF _)) _
 ·obtain⟨a3,hb,l,ho⟩:=HX.out
  have j:rb≠w.heap.size:=by omega
  obtain⟨b,off,c,cs,rfl,h⟩:=l;have P:b≠w.heap.size:=by have:=a1 b (ho▸rfl);omega
  refine⟨_,((hb.BA (p:=⟨w.heap.size,0,none⟩) j _).BA (p:=⟨w.heap.size,1,none⟩) j _).BA (p:=⟨w.heap.size,2,none⟩) j _,⟨b,off,c,cs,rfl,?_⟩,ho⟩;exact⟨((h.Ap.BA (p:=⟨w.heap.size,0,none⟩) P _).BA (p:=⟨w.heap.size,1,none⟩) P _).BA (p:=⟨w.heap.size,2,none⟩) P _,h.cap,h.cell⟩
def Im:List Tk->Prop
 | []=>False
 | [t]=>t.k=0
 | t::r=>t.k≠0/\Im r
theorem Im.tail{t:Tk}{r:List Tk}(h:Im (t::r))(i:t.k≠0):Im r/\r≠[]:=by
 cases r with
 | nil=>exact absurd h i
 | cons u r=>exact⟨h.2,by simp⟩
theorem Im.cons{l:List Tk}(h:Im l):∃t r,l=t::r:=by
 cases l with
 | nil=>exact h.elim
 | cons t r=>exact⟨t,r,rfl⟩
def Oj{t:Tk}(h:Bg t=true):t.k≠0:=by intro h0;unfold Bg at h;rw[h0]at h;cases h
def Aj.keeps{w a b:World}(h:Aj X w a)(k:AI w T a b):Aj X w b:=
 ⟨k.os.trans h.os,k.tape.trans h.tape,k.output.trans h.output,AW h.size k.size,fun i j l=>(k.block i (Ba j h.size) (.inl j)).trans (h.block i j l)⟩
structure Cm(w:World)(rb:Nat)(f1 f2 f3 f4 f5:Value)(tb:Option Nat)(l:List Tk):Prop where
 ex:∃lv,Ah w rb 142 #[lv,f1,f2,f3,f4,f5]/\Fa w lv l/\lv.ownBlock=tb
 ended:Im l
 ne:tb≠some rb
def MY.A0{w:World}{rb:Nat}{j l o p:Value}{t:Tk}{r:List Tk}{e:Ending}(h:MY w rb j l o p C i t r e w')(hr:Im r)(U:i.ownBlock≠some rb) :
  e=.returned t.val/\Aj (·=rb) w w'/\Cm w' rb j l o p C i.ownBlock r:=by
 obtain⟨I,J,a0,P,R,T⟩:=h;exact⟨I,J,⟨a0,P,R,T⟩,hr,U⟩
def Cm.AE{w:World}{rb:Nat}{j o p t:Value}{tb:Option Nat}{l:List Tk}(h:Cm w rb i j o p t tb l)(C:Aj X w w')(I:¬X rb)(J:∀g,tb=some g->¬X g):Cm w' rb i j o p t tb l:=by obtain⟨T,P,R,rfl⟩:=h.ex;exact⟨⟨T,C.Ap P I,R.AE C J,rfl⟩,h.ended,h.ne⟩
def Cm.lt{w:World}{rb:Nat}{j o p t:Value}{tb:Option Nat}{l:List Tk}(h:Cm w rb i j o p t tb l):rb<w.heap.size/\∀g,tb=some g->g<w.heap.size:=by obtain⟨J,C,I,rfl⟩:=h.ex;exact⟨C.lt,I.lt⟩
structure IM(w:World)(rb:Nat)(f1 f2 f3 f4 f5:Value)(tb:Option Nat)(l:List Tk)(sb:Nat)(p:Nat)(sv:Value)(a rest:List Tk)(wr:World):Prop where
 A0:Cm wr rb f1 f2 f3 f4 f5 tb rest
 Ap:Ah wr sb 183 #[sv,p]
 own:wr.ownsRow w 173 3 sv a.length (a.flatMap Tk.cells)
 AE:Aj (·=rb) w wr
 tw:l.takeWhile Bg=a++rest.takeWhile Bg
 dw:l.dropWhile Bg=rest.dropWhile Bg
variable{p:Value}{a:List Tk}
def ZN{w wr w1:World}{rb:Nat}{J P R T:Value}{tb:Option Nat}{l:List Tk}{i p:Nat}{sv:Value}{r:List Tk}{t:Tk}{C:Option Addr}(a9:rb<w.heap.size)(a7:∀g,tb=some g->g<w.heap.size)(a6:w.heap.size<=i)
  (h:IM w rb I J P R T tb l i p sv a (t::r) wr) (ht:Bg t=true) (a2:Aj (·=rb) wr w1) (a0:Cm w1 rb I J P R T tb r)
  (ho:w2.ownsRow w 173 3 (.slice C (a.length+1) c2) (a.length+1) (a.flatMap Tk.cells++t.cells)) (o:AI w [173] (w1.alloc (.cells #[t.k,.string (str t.s),t.p] 173)) w2) :
  IM w rb I J P R T tb l i p (.slice C (a.length+1) c2) (a++[t]) r (w2.setCell (i,0) (.slice C (a.length+1) c2)):=by
 have a3:rb≠i:=by omega
 have a1:Ah w2 i 183 #[sv,p]:=o.Ap ((a2.Ap h.Ap (Ne.symm a3)).alloc _) (.inr (by decide));have a5:Aj (·=rb) w w2:=((h.AE.next a2).alloc _).keeps o;refine⟨⟨?_,a0.ended,a0.ne⟩,by simpa using a1.Be 0 _,?_,a5.set (p:=⟨i,0,none⟩) (.inl a6) _,?_,?_⟩
 ·obtain⟨lv,k1,k2,k3⟩:=a0.ex
  refine⟨lv,(o.Ap (k1.alloc _) (.inr (by decide))).BA (by simpa using a3) _,?_,k3⟩;obtain⟨b,off,c,cs,rfl,U⟩:=k2;have hb:=a7 b (by rw[<-k3];rfl);exact⟨b,off,c,cs,rfl,(o.Ap (U.Ap.alloc _) (.inl hb)).BA (by simp;omega) _,U.cap,U.cell⟩
 ·have:(a++[t]).length=a.length+1:=by simp
  rw[this,List.flatMap_append];refine EC (by simpa using ho) ?_ _;intro j;rcases Bi ho with⟨e,_⟩|⟨b,c,e,_,_,_,_,a8,a4⟩
  ·rw[e]at j;cases j
  ·rw[e]at j
   cases j
   exact Ah.Bf (t:=173) a4 a1 (by decide) rfl
 ·rw[h.tw,List.takeWhile_cons,if_pos ht];simp
 ·rw[h.dw,List.dropWhile_cons,if_pos ht]
def BF{w:World}{base:Nat}{v:Value}(h:w.ownsRow base e size v n xs):∃A c,v=.slice A n c:=by
 rcases Bi h with⟨rfl,rfl⟩|⟨b,c,rfl,_⟩
 ·exact⟨none,0,rfl⟩
 ·exact⟨_,c,rfl⟩
def CZ{w:World}{base x:Nat}{v:Value}(h:w.ownsRow base e size v n xs)(o:x<base):∀g,v.ownBlock=some g->¬g=x:=by
 rcases Bi h with⟨rfl,_⟩|⟨b,c,rfl,j,_⟩
 ·intro g i;cases i
 ·intro g i l
  cases i
  subst l;exact absurd o (Nat.not_lt.2 j)
def IM.len{w wr:World}{rb:Nat}{j o t:Value}{tb:Option Nat}{l:List Tk}{R p:Nat}{T:Value}{rest:List Tk}(h:IM w rb i j o t C tb l R p T a rest wr):a.length+rest.length=l.length:=by have I:=congrArg List.length h.tw;have U:=congrArg List.length h.dw;have J:=congrArg List.length (List.takeWhile_append_dropWhile (p:=Bg) (l:=l));have P:=congrArg List.length (List.takeWhile_append_dropWhile (p:=Bg) (l:=rest));rw[B8]at I J P;omega
def OO(l:List Tk):(BR l).l=l.takeWhile Bg:=by cases l<;>rfl
def IM.drew{w wr:World}{rb:Nat}{j o t:Value}{tb:Option Nat}{l:List Tk}{J p:Nat}{P:Value}{rest:List Tk}(h:IM w rb j o t C I tb l J p P a rest wr):IM w rb j o t C I tb l J p P a rest wr.drew:=by have i:Aj (fun _=>False) wr wr.drew:=(Aj.refl _ _).drew;exact⟨h.A0.AE i id (fun _ _=>id),i.Ap h.Ap id,i.own h.own (fun _ _=>id),h.AE.drew,h.tw,h.dw⟩
def gX(w:World)(rb:Nat)(i j o p t:Value)(tb:Option Nat)(l:List Tk)(e:Ending)(w':World):Prop:=
 ∃A c,e=.returned (.agg #[.slice A (BR l).l.length c,.int .i64 (BR l).p])/\Aj (·=rb) w w'/\Cm w' rb i j o p t tb (l.dropWhile Bg)/\w'.ownsRow w 173 3 (.slice A (BR l).l.length c) (BR l).l.length ((BR l).l.flatMap Tk.cells)
def TU{w:World}{rb:Nat}{f1 f2 f3 f4 f5:Value}{tb:Option Nat}{l:List Tk}(h:Cm w rb f1 f2 f3 f4 f5 tb l)(b2:l.length<=100000):() 121 #[(rb,0)] w (gX w rb f1 f2 f3 f4 f5 tb l):=by
 obtain⟨aa,ae⟩:=h.lt;obtain⟨j,r0,a1⟩:=h.ended.cons;obtain⟨lv,o,p,C⟩:=h.ex;have hA:=AG w (.cells #[.slice none 0 0,.int .i64 0] 183);have a7:=((Aj.refl (·=rb) w).alloc (.cells #[.slice none 0 0,.int .i64 0] 183)).alloc (.cells #[.slice none 0 0,j.p] 183);have hp:(BR l).p=j.p:=by rw[a1];rfl
 have HP:=Hd hp;have ad:IM w rb f1 f2 f3 f4 f5 tb l (w.heap.size+1) j.p (.slice none 0 0) [] l ((w.alloc (.cells #[.slice none 0 0,.int .i64 0] 183)).alloc (.cells #[.slice none 0 0,j.p] 183)):=by have ax:=((Aj.refl (fun _=>False) w).alloc (.cells #[.slice none 0 0,.int .i64 0] 183)).alloc (.cells #[.slice none 0 0,j.p] 183);refine⟨h.AE ax id (fun _ _ h=>h),?_,World.ownsRow_nil _ _ _ _,a7,rfl,rfl⟩;have:=Ah.new (w.alloc (.cells #[.slice none 0 0,.int .i64 0] 183)) 183 #[.slice none 0 0,j.p];rwa [World.size_alloc]at this
 have au:=Hd ad;have an:=Hd ((Ah.new w 183 #[.slice none 0 0,.int .i64 0]).alloc (.cells #[.slice none 0 0,j.p] 183));have aw:=o.cell 0;simp at aw;obtain⟨b,off,c,cs,rfl,a2⟩:=p;rw[a1]at a2;obtain⟨_,_,c2⟩:=a2.head;have b4:=a2.Ap.lt;have b3:(0:Int)<(l.length:Int):=by rw[a1,List.length_cons];omega
 clear hA a7 h o a2 a1 C hp ad;go_enter Tryz.func121,Tryz.ntmps121
 go_wp2;generalize b5:w.heap.size+1=sb at *;go_loopg [] l.length (fun n wr=>∃sv a rest,n=rest.length/\Hid (IM w rb f1 f2 f3 f4 f5 tb l sb j.p sv a rest wr)/\Hid (Ah wr w.heap.size 183 #[.slice none 0 0,.int .i64 0]))
 case atStart=>exact⟨_,[],l,rfl,au,an⟩
 case round=>
  obtain⟨sv,a,rest,rfl,i,R⟩:=hrel;obtain⟨t,r,rfl⟩:=i.A0.ended.cons;have a8:=i.len;obtain⟨af,o,p,C⟩:=i.A0.ex;have h0:=o.cell 0;simp at h0;have H1:=Hd (Th h0 p);obtain⟨A,c,rfl⟩:=BF i.own;have b0:=i.Ap.cell 0;have b1:=i.Ap.cell 1;have u0:=i.Ap.frozen 0;have ag:=R.cell 0;have ah:=R.cell 1;have v0:=R.frozen 0;have v1:=R.frozen 1;simp at b0 b1 ag ah;have b6:=i.Ap.lt;cases I:Bg t with
  | true=>
   rw[I]at H1;have HD:=Hd i.drew;have ao:=Hd (((Aj.refl (fun _=>False) wr).drew).Ap R id);clear o p C;obtain⟨af,o,p,C⟩:=HD.A0.ex;have a5:=i.A0.ended.tail (Oj I);have a4:af.ownBlock≠some rb:=by rw[C];exact i.A0.ne
   have H2:=Hd ((Pe o p a5.2 a4).mono fun e P hx=>(by have:=hx.A0 a5.1 a4;rw[C]at this;exact this:e=.returned (.agg #[t.k,.string (str t.s),t.p])/\Aj (·=rb) wr.drew P/\Cm P rb f1 f2 f3 f4 f5 tb r));have av:=Hd I;have HA:a.length+r.length<100000:=by simp at a8;omega
   clear o p h0 C I a5 a8 a4;go_wp2_with (go_at_call 118;refine H1.mono ?_;rintro e w' ⟨rfl,J⟩;replace J:=J.symm;subst J)
   go_region_law (first
    | (
      refine EG LX (.tmp 15) (.tmp 18) ?_ ?_ (base:=w.heap.size) (n:=a.length) (m:=1) (N:=a.length+1) (v:=.slice A a.length c) (src:=.slice (P,0) 1 1) (xs:=a.flatMap Tk.cells) (news:=[.int .i64 t.k,.string (str t.s),.int .i64 t.p]) ?_ ?_ ?_ ?_ ?_ ?_ ?_ ?_ ?_
      ·rfl
      ·rfl
      ·rfl
      ·rfl
      ·exact ak.alloc _
      ·exact Ma P _ _ _
      ·rfl
      ·unfold maxLen;omega
      ·omega
      ·simp;omega
      intro A2 c2 w2 r1 r2 r3;have HF:=Hd (ZN aa ae (by omega) HD av ai ar r1 r2);have a3:=r2.Ap (aj.alloc _) (.inr (by decide));have z0:=a3.cell 0;have z1:=a3.frozen 0;simp at z0;have aq:=Hd ((r2.Ap (al.alloc _) (.inr (by decide))).BA (p:=⟨sb,0,none⟩) (by simp;omega) (.slice A2 (a.length+1) c2));clear r1 r2 r3 a3)
    | (
      go_simp;go_at_call 87;refine H2.mono ?_;intro e P hx;obtain⟨rfl,T,ab⟩:=hx;have ai:=Hd T;have ar:=Hd ab;have ak:=Hd (T.own HD.own (CZ HD.own aa));have hk:=T.Ap HD.Ap (by omega);have b0:=hk.cell 0;have u0:=hk.frozen 0;simp at b0;have aj:=Hd hk;have al:=Hd (T.Ap ao (by omega));have b7:wr.heap.size<=P.heap.size:=T.size;have b8:sb<P.heap.size:=by omega
      clear T ab hk))
   all_goals go_wp2
   all_goals go_roundg r.length
   all_goals first
    | (case measure=>simp)
    | (case rel=>exact⟨_,a++[t],r,rfl,HF,aq⟩)
    | skip
  | false=>
   rw[I]at H1;clear o p h0;go_wp2_with (go_at_call 118;refine H1.mono ?_;rintro e w' ⟨rfl,J⟩;replace J:=J.symm;subst J)
   refine bodyPost_ret (v:=.agg #[.slice A a.length c,j.p]) (by simp[results,Tryz.results121,go_sem,ag,ah]) rfl ?_;have a0:=i.out;have a6:=a0.tw;rw[List.takeWhile_cons,if_neg (by rw[I];simp),List.append_nil]at a6;have a9:=a0.dw;rw[List.dropWhile_cons,if_neg (by rw[I];simp)]at a9;have hX:Aj (·=w.heap.size) wr ((wr.setCell (w,0) (.slice A a.length c)).setCell (w,1) j.p):=((Aj.refl (·=w.heap.size) wr).set (p:=⟨w.heap.size,0,none⟩) (.inr rfl) _).set (p:=⟨w.heap.size,1,none⟩) (.inr rfl) _;refine⟨A,c,?_,(a0.AE.set (p:=⟨w.heap.size,0,none⟩) (.inl (AF _)) _).set (p:=⟨w.heap.size,1,none⟩) (.inl (AF _)) _,?_,?_⟩
   ·rw[OO,a6,HP.out]
   ·rw[a9]
    exact a0.A0.AE hX (by omega) (fun g U=>by have:=ae g U;omega)
   ·rw[OO,a6]
    refine hX.own a0.own ?_;intro g U he;rcases Bi a0.own with⟨e,_⟩|⟨b,c,e,_,_,_,_,az,ay⟩
    ·rw[e]at U;cases U
    ·rw[e]at U
     cases U
     exact Ah.Bf (t:=173) ay R (by decide) he
def P9:El Tryz.prog 43 3 1 8:=El.of (z:=.int .i64 0) Tryz.underlying43 (by kernel_rfl) rfl (by decide)
def Q3(y:World)(a:Int):AY (y.alloc (.cells #[a] 3)) (.slice (y,0) 1 1) 1 1 [.int .i64 a]:=
 AY.Ap (c:=1) (Ah.new y 3 #[a]) rfl (by simp[Value.oneCell'])
def Aj.CE{w:World}{v:Value}(h:w.grownBy w' v.ownBlock):Aj (fun k=>v.ownBlock=some k) w w':=⟨h.os,h.tape,h.output,h.size,fun k i j=>h.block k i (fun e=>j e.symm)⟩
def Gf{w:World}{t C:Nat}{i j:TypeId}{s1 s2 U n2:Nat}{v1:Value}{a0 a1:List Value}(I:w.ownsRow t i s1 v1 U a0)(J:w.ownsRow C j s2 p n2 a1)(T:i≠j):∀g,v1.ownBlock=some g->¬p.ownBlock=some g:=by
 intro g l o;rcases Bi I with⟨rfl,_⟩|⟨b,c,rfl,_,_,_,_,a2,P⟩
 ·cases l
 ·cases l
  rcases Bi J with⟨rfl,_⟩|⟨b2,c2,rfl,_,_,_,_,a3,R⟩
  ·cases o
  ·cases o
   exact Ah.Bf (t:=i) P R T rfl
def B4{w:World}{B:Nat}{s:Nat}{v:Value}(h:w.ownsRow B e s v n xs):∀g,v.ownBlock=some g->B<=g/\g<w.heap.size:=by
 intro g i;rcases Bi h with⟨rfl,_⟩|⟨b,c,rfl,j,l,_⟩
 ·cases i
 ·cases i
  exact⟨j,l⟩
def Mark(m:Nat):Value:=.int .i64 m
structure C4(w:World)(B rb:Nat)(f4 f5:Value)(tb:Option Nat)(l:List Tk)(x:Bl)(dv kv sv:Value):Prop where
 A0:Cm w rb dv kv sv f4 f5 tb l
 decl:w.ownsRow B 173 3 dv x.decl.length (x.decl.flatMap Tk.cells)
 marks:w.ownsRow B 3 1 kv x.marks.length (x.marks.map Mark)
 starts:w.ownsRow B 173 3 sv x.starts.length (x.starts.flatMap Tk.cells)
 apart:∀g,dv.ownBlock=some g->¬sv.ownBlock=some g
 EA:rb<B
 GD:∀g,tb=some g->g<B
 bB:B<=w.heap.size
 ld:x.decl.length+l.length<=100000
 lm:x.marks.length+l.length<=100000
 ls:x.starts.length+l.length<=100000
def C4.AE{w:World}{B rb:Nat}{t:Value}{tb:Option Nat}{l P:List Tk}{x:Bl}{J R:Value}(h:C4 w B rb t C tb l x p J R)(o:Aj X w w')(I:∀k,X k->k=rb)(T:Cm w' rb p J R t C tb P)(U:P.length<=l.length):C4 w' B rb t C tb P x p J R where
 A0:=T
 decl:=o.own h.decl (fun g j i=>CZ h.decl h.EA g j (I g i))
 marks:=o.own h.marks (fun g j i=>CZ h.marks h.EA g j (I g i))
 starts:=o.own h.starts (fun g j i=>CZ h.starts h.EA g j (I g i))
 apart:=h.apart
 EA:=h.EA
 GD:=h.GD
 bB:=AW h.bB o.size
 ld:=by have:=h.ld;omega
 lm:=by have:=h.lm;omega
 ls:=by have:=h.ls;omega
def XE{w:World}{B rb:Nat}{T:Value}{tb:Option Nat}{l:List Tk}{x:Bl}{kv sv:Value}{N:Nat}{t:Tk}(h:C4 w B rb T U tb l x p kv sv)(hl:x.decl.length+1+l.length<=100000)(hN:N=x.decl.length+1)
  (ho:w2.ownsRow B 173 3 (.slice j N c2) N (x.decl.flatMap Tk.cells++t.cells)) (hg:(w.alloc o).grownBy w2 p.ownBlock/\((Value.slice j N c2).ownBlock=p.ownBlock\/(Value.slice j N c2).ownBlock=some (w.alloc o).heap.size)) :
  C4 (w2.setCell (rb,1) (.slice j N c2)) B rb T U tb l {x with decl:=x.decl++[t]} (.slice j N c2) kv sv/\Aj (fun k=>k=rb\/B<=k) w (w2.setCell (rb,1) (.slice j N c2)):=by
 have hX:Aj (fun k=>p.ownBlock=some k) w w2:=((Aj.refl _ w).alloc o).next (.CE hg.1);have P:∀k,p.ownBlock=some k->B<=k:=fun k hk=>(B4 h.decl k hk).1
 have C:Aj (fun k=>k=rb\/p.ownBlock=some k) w (w2.setCell (rb,1) (.slice j N c2)):=(hX.mono (fun a1 J=>.inr J)).set (p:=⟨rb,1,none⟩) (.inr (.inl rfl)) _;have R:=h.EA;obtain⟨lv,k1,k2,k3⟩:=h.A0.ex;have e1:¬p.ownBlock=some rb:=fun e=>by have:=P _ e;omega
 refine⟨⟨⟨⟨lv,by simpa using(hX.Ap k1 e1).Be 1 _,k2.AE C ?_,k3⟩,h.A0.ended,h.A0.ne⟩,?d,?k,?s,?_,h.EA,h.GD,AW h.bB C.size,?_,?_,?_⟩,C.mono ?_⟩
 ·intro g i
  rw[k3]at i;rintro(rfl|I)
  ·exact h.A0.ne i
  ·have:=h.GD g i;have:=P g I;omega
 case d=>rw[show (x.decl++[t]).length=N by rw[hN];simp,List.flatMap_append];exact EC (by simpa [Tk.cells] using ho) (fun e=>CZ ho R _ e rfl) _
 case k=>
  refine C.own h.marks ?_;rintro g i (rfl|I)
  ·exact CZ h.marks R _ i rfl
  ·exact Gf h.decl h.marks (by decide) g I i
 case s=>
  refine C.own h.starts ?_;rintro g i (rfl|I)
  ·exact CZ h.starts R _ i rfl
  ·exact h.apart g I i
 ·intro g i a0
  rcases hg.2 with e|e
  ·rw[e]at i;exact h.apart g i a0
  ·rw[e]at i;cases i;have:=(B4 h.starts _ a0).2;simp at this;omega
 ·have:=h.ld;simp at this ⊢;omega
 ·have:=h.lm;simp at this ⊢;omega
 ·have:=h.ls;simp at this ⊢;omega
 ·rintro a1 (J|J)
  ·exact .inl J
  ·exact .inr (P a1 J)
def eY{w:World}{B rb:Nat}{T:Value}{tb:Option Nat}{l:List Tk}{x:Bl}{R sv:Value}{N:Nat}{m:Nat}(h:C4 w B rb T U tb l x R p sv)(hl:x.marks.length+1+l.length<=100000)(hN:N=x.marks.length+1)
  (ho:w2.ownsRow B 3 1 (.slice j N c2) N (x.marks.map Mark++[Mark m])) (hg:(w.alloc o).grownBy w2 p.ownBlock/\((Value.slice j N c2).ownBlock=p.ownBlock\/(Value.slice j N c2).ownBlock=some (w.alloc o).heap.size)) :
  C4 (w2.setCell (rb,2) (.slice j N c2)) B rb T U tb l {x with marks:=x.marks++[m]} R (.slice j N c2) sv/\Aj (fun k=>k=rb\/B<=k) w (w2.setCell (rb,2) (.slice j N c2)):=by
 have hX:Aj (fun k=>p.ownBlock=some k) w w2:=((Aj.refl _ w).alloc o).next (.CE hg.1);have J:∀k,p.ownBlock=some k->B<=k:=fun k hk=>(B4 h.marks k hk).1
 have t:Aj (fun k=>k=rb\/p.ownBlock=some k) w (w2.setCell (rb,2) (.slice j N c2)):=(hX.mono (fun a0 I=>.inr I)).set (p:=⟨rb,2,none⟩) (.inr (.inl rfl)) _;have P:=h.EA;obtain⟨lv,k1,k2,k3⟩:=h.A0.ex;have e1:¬p.ownBlock=some rb:=fun e=>by have:=J _ e;omega
 refine⟨⟨⟨⟨lv,by simpa using(hX.Ap k1 e1).Be 2 _,k2.AE t ?_,k3⟩,h.A0.ended,h.A0.ne⟩,?d,?k,?s,?_,h.EA,h.GD,AW h.bB t.size,?_,?_,?_⟩,t.mono ?_⟩
 ·intro g i
  rw[k3]at i;rintro(rfl|C)
  ·exact h.A0.ne i
  ·have:=h.GD g i;have:=J g C;omega
 case k=>rw[show (x.marks++[m]).length=N by rw[hN];simp,By];exact EC (by simpa [Mark] using ho) (fun e=>CZ ho P _ e rfl) _
 case d=>
  refine t.own h.decl ?_;rintro g i (rfl|C)
  ·exact CZ h.decl P _ i rfl
  ·exact Gf h.marks h.decl (by decide) g C i
 case s=>
  refine t.own h.starts ?_;rintro g i (rfl|C)
  ·exact CZ h.starts P _ i rfl
  ·exact Gf h.marks h.starts (by decide) g C i
 ·exact h.apart
 ·have:=h.ld;simp at this ⊢;omega
 ·have:=h.lm;simp at this ⊢;omega
 ·have:=h.ls;simp at this ⊢;omega
 ·rintro a0 (I|I)
  ·exact .inl I
  ·exact .inr (J a0 I)
def Xr{w:World}{B rb:Nat}{f4 f5:Value}{tb:Option Nat}{l:List Tk}{x:Bl}{kv:Value}{N:Nat}{t:Tk}(h:C4 w B rb f4 f5 tb l x U kv p)(hl:x.starts.length+1+l.length<=100000)(hN:N=x.starts.length+1)
  (ho:w2.ownsRow B 173 3 (.slice j N c2) N (x.starts.flatMap Tk.cells++t.cells)) (hg:(w.alloc o).grownBy w2 p.ownBlock/\((Value.slice j N c2).ownBlock=p.ownBlock\/(Value.slice j N c2).ownBlock=some (w.alloc o).heap.size)) :
  C4 (w2.setCell (rb,3) (.slice j N c2)) B rb f4 f5 tb l {x with starts:=x.starts++[t]} U kv (.slice j N c2)/\Aj (fun k=>k=rb\/B<=k) w (w2.setCell (rb,3) (.slice j N c2)):=by
 have hX:Aj (fun k=>p.ownBlock=some k) w w2:=((Aj.refl _ w).alloc o).next (.CE hg.1);have R:∀k,p.ownBlock=some k->B<=k:=fun k hk=>(B4 h.starts k hk).1
 have C:Aj (fun k=>k=rb\/p.ownBlock=some k) w (w2.setCell (rb,3) (.slice j N c2)):=(hX.mono (fun a0 J=>.inr J)).set (p:=⟨rb,3,none⟩) (.inr (.inl rfl)) _;have T:=h.EA;obtain⟨lv,k1,k2,k3⟩:=h.A0.ex;have e1:¬p.ownBlock=some rb:=fun e=>by have:=R _ e;omega
 refine⟨⟨⟨⟨lv,by simpa using(hX.Ap k1 e1).Be 3 _,k2.AE C ?_,k3⟩,h.A0.ended,h.A0.ne⟩,?d,?k,?s,?_,h.EA,h.GD,AW h.bB C.size,?_,?_,?_⟩,C.mono ?_⟩
 ·intro g i
  rw[k3]at i;rintro(rfl|I)
  ·exact h.A0.ne i
  ·have:=h.GD g i;have:=R g I;omega
 case s=>rw[show (x.starts++[t]).length=N by rw[hN];simp,List.flatMap_append];exact EC (by simpa [Tk.cells] using ho) (fun e=>CZ ho T _ e rfl) _
 case d=>
  refine C.own h.decl ?_;rintro g i (rfl|I)
  ·exact CZ h.decl T _ i rfl
  ·exact h.apart g i I
 case k=>
  refine C.own h.marks ?_;rintro g i (rfl|I)
  ·exact CZ h.marks T _ i rfl
  ·exact Gf h.starts h.marks (by decide) g I i
 ·intro g i P
  rcases hg.2 with e|e
  ·rw[e]at P;exact h.apart g i P
  ·rw[e]at P;cases P;have:=(B4 h.decl _ i).2;simp at this;omega
 ·have:=h.ld;simp at this ⊢;omega
 ·have:=h.lm;simp at this ⊢;omega
 ·have:=h.ls;simp at this ⊢;omega
 ·rintro a0 (J|J)
  ·exact .inl J
  ·exact .inr (R a0 J)
def QQ(w:World)(rb:Nat)(f1 f2 f3 f4 f5:Value)(tb:Option Nat)(t:Tk)(r:List Tk)(e:Ending)(w':World):Prop:=
 e=.returned (.agg #[t.k,.string (str t.s),t.p])/\Aj (·=rb) w w'/\Cm w' rb f1 f2 f3 f4 f5 tb r
namespace Cm
variable {w:World} {rb:Nat} {f1 f2 f3 f4 f5:Value} {tb:Option Nat} {t:Tk} {r l:List Tk}
def is(h:Cm w rb f1 f2 f3 f4 f5 tb (t::r))(k:Nat)(K:Int)(p:K=(k:Int)):() 85 #[(rb,0),K] w fun e w'=>e=.returned (.bool (t.k==k))/\w=w':=by subst p;obtain⟨I,o,C,_⟩:=h.ex;exact(KR (o.cell 0) C k).mono fun e w' ⟨i,j⟩=>⟨i,j.symm⟩
def sym(h:Cm w rb f1 f2 f3 f4 f5 tb (t::r)):() 118 #[(rb,0)] w fun e w'=>e=.returned (.bool (Bg t))/\w=w':=by obtain⟨C,o,p,_⟩:=h.ex;exact(Th (o.cell 0) p).mono fun e w' ⟨i,j⟩=>⟨i,j.symm⟩
def bad(h:Cm w rb f1 f2 f3 f4 f5 tb (t::r)):() 119 #[(rb,0)] w fun e w'=>e=.panicked [{v:=.iface 136 (.agg #[.int .i64 (DH (t::r)).1,.int .i64 (DH (t::r)).2]),recovered:=false}]/\w=w':=by obtain⟨C,o,p,_⟩:=h.ex;exact(Qh (o.cell 0) p).mono fun e w' ⟨i,j⟩=>⟨i,j.symm⟩
def take(h:Cm w rb f1 f2 f3 f4 f5 tb (t::r))(I:t.k≠0):() 87 #[(rb,0)] w (QQ w rb f1 f2 f3 f4 f5 tb t r):=by
 obtain⟨R,C,J,j⟩:=h.ex;obtain⟨o,p⟩:=h.ended.tail I;have i:R.ownBlock≠some rb:=by rw[j];exact h.ne
 refine(Pe C J p i).mono fun e T P=>?_
 have:=P.A0 o i;rw[j]at this;exact this
def want(h:Cm w rb f1 f2 f3 f4 f5 tb (t::r))(k:Nat)(K:Int)(J:K=(k:Int))(i:t.k=k)(h0:k≠0):() 120 #[(rb,0),K] w (QQ w rb f1 f2 f3 f4 f5 tb t r):=by
 subst J;obtain⟨T,I,P,o⟩:=h.ex;obtain⟨p,C⟩:=h.ended.tail (i▸h0);have j:T.ownBlock≠some rb:=by rw[o];exact h.ne
 refine(Xk I P C j k (by simp[i])).mono fun e U R=>?_
 have:=R.A0 p j;rw[o]at this;exact this
def Mc(h:Cm w rb f1 f2 f3 f4 f5 tb (t::r))(k:Nat)(K:Int)(j:K=(k:Int))(o:t.k≠k):() 120 #[(rb,0),K] w fun e w'=>e=.panicked [{v:=.iface 136 (.agg #[.int .i64 (DH (t::r)).1,.int .i64 (DH (t::r)).2]),recovered:=false}]/\Below w w w':=by subst j;obtain⟨C,i,p,_⟩:=h.ex;exact fI (i.cell 0) p k (by simp[o])
def drew(h:Cm w rb f1 f2 f3 f4 f5 tb l):Cm w.drew rb f1 f2 f3 f4 f5 tb l:=h.AE ((Aj.refl (fun _=>False) w).drew) id (fun _ _=>id)
def cells(h:Cm w rb f1 f2 f3 f4 f5 tb l):w.cell? (rb,1)=some f1/\w.cell? (rb,2)=some f2/\w.cell? (rb,3)=some f3/\w.cell? (rb,4)=some f4/\w.cell? (rb,5)=some f5/\rb<w.heap.size:=by obtain⟨o,i,j,_⟩:=h.ex;exact⟨i.cell 1,i.cell 2,i.cell 3,i.cell 4,i.cell 5,i.lt⟩
def frozen(h:Cm w rb f1 f2 f3 f4 f5 tb l)(k:Nat):w.frozen? (rb,k)=false:=by obtain⟨o,i,j,_⟩:=h.ex;exact i.frozen k
end Cm
def C4.drew{w:World}{B rb:Nat}{f4 f5:Value}{tb:Option Nat}{l:List Tk}{x:Bl}{j o:Value}(h:C4 w B rb f4 f5 tb l x i j o):C4 w.drew B rb f4 f5 tb l x i j o:=
 h.AE ((Aj.refl (fun _=>False) w).drew) (fun _ h=>h.elim) h.A0.drew (AF _)
def C4.ex{w:World}{B rb:Nat}{f4 f5:Value}{tb:Option Nat}{l:List Tk}{x:Bl}(h:C4 w B rb f4 f5 tb l x p C I):∃i c1 j c2 o c3,p=.slice i x.decl.length c1/\C=.slice j x.marks.length c2/\I=.slice o x.starts.length c3:=by obtain⟨i,c1,J⟩:=BF h.decl;obtain⟨j,c2,P⟩:=BF h.marks;obtain⟨o,c3,R⟩:=BF h.starts;exact⟨i,c1,j,c2,o,c3,J,P,R⟩
def C4.grown{w:World}{B rb:Nat}{f4 f5 v:Value}{tb:Option Nat}{l:List Tk}{x:Bl}(h:C4 w B rb f4 f5 tb l x i p C)(j:∀k,v.ownBlock=some k->B<=k/\k<w.heap.size)(I:(w.alloc o).grownBy w2 v.ownBlock):Cm w2 rb i p C f4 f5 tb l:=by
 refine h.A0.AE (((Aj.refl _ w).alloc o).next (.CE I)) (fun e=>?_) (fun g J e=>?_)
 ·have:=(j _ e).1;have:=h.EA;omega
 ·have:=(j _ e).1;have:=h.GD _ J;omega
def Yc(w:World)(B rb:Nat)(f4 f5:Value)(tb:Option Nat)(x:Bl)(l:List Tk)(e:Ending)(w':World):Prop:=
 Aj (fun k=>k=rb\/B<=k) w w'/\match Db x l with
 | .ok (C,o)=>e=.returned (.tuple #[])/\∃i j p,C4 w' B rb f4 f5 tb o C i j p
 | .error f=>BW f e
def XI(k p:Int)(s:ByteArray)(w:World):(Instr.field 173 (.agg #[k,.string s,p]) 2).run Tryz.prog w=.ok p w:=by kernel_rfl
def ly{w:World}{B rb:Nat}{f4 f5:Value}{tb:Option Nat}{l:List Tk}{x:Bl}{dv kv sv:Value}(h:C4 w B rb f4 f5 tb l x dv kv sv):() 86 #[(rb,0)] w (Yc w B rb f4 f5 tb x l):=by
 obtain⟨t,r,rfl⟩:=h.A0.ended.cons;obtain⟨A1,c1,A2,c2,A3,c3,rfl,rfl,rfl⟩:=h.ex;have H7:=Hd (h.A0.is 7 7 rfl);have H8:=Hd (h.A0.is 8 8 rfl);have al:=Hd h.A0.bad;have bb:=h.EA;by_cases U:t.k=7
 ·have hk:(t.k==7)=true:=by simp[U]
  rw[hk]at H7;have HT:=Hd (h.A0.take (by omega));obtain⟨j,o,rfl⟩:=(h.A0.ended.tail (by omega)).1.cons;have HH:=Hd h;cases I:Bg j with
  | false=>
   have HE:Hid (Db x (t::j::o)=.error (DH (j::o))):=Hd (by simp[Db,U,I]);have ag:=Hd I;clear h U I hk;go_enter Tryz.func86,Tryz.ntmps86
   go_wp2_with (first
    | (go_at_call 85;with_reducible refine H7.out.mono ?_;rintro e R ⟨rfl,i⟩;subst i)
    | (go_at_call 87;refine HT.mono ?_;intro e w1 hx;obtain⟨rfl,a1,a0⟩:=hx;have aa:=Hd a1;have HY:=Hd (ag.out▸a0.sym);have ak:=Hd a0.bad;clear a1 a0)
    | (go_at_call 118;refine HY.mono ?_;rintro e R ⟨rfl,i⟩;subst i)
    | (go_at_call 119;refine ak.mono ?_;rintro e R ⟨rfl,i⟩;subst i))
   refine⟨rfl,aa.mono (fun _ h=>.inl h),?_⟩;rw[HE.out];exact BW.of rfl rfl
  | true=>
   have HE:Hid (Db x (t::j::o)=.ok ({x with decl:=x.decl++(j::o).takeWhile Bg},(j::o).dropWhile Bg)):=Hd (by simp[Db,U,I]);have ag:=Hd I;have HN:Hid (j::o≠[]):=Hd (by simp);have b6:Hid (x.decl.length+(j::o).length<=100000):=Hd (by have:=h.ld;simp at this ⊢;omega);clear U hk;go_enter Tryz.func86,Tryz.ntmps86
   go_wp2_with (first
    | (go_at_call 85;with_reducible refine H7.out.mono ?_;rintro e R ⟨rfl,i⟩;subst i)
    | (go_at_call 87;refine HT.mono ?_;intro e w1 hx;obtain⟨rfl,a1,a0⟩:=hx;have aa:=Hd a1;have HY:=Hd (I▸a0.sym);have af:=Hd (HH.AE a1 (fun _ h=>h) a0 (by simp));clear a1 a0 h I)
    | (go_at_call 118;refine HY.mono ?_;rintro e R ⟨rfl,i⟩;subst i))
   have bd:B<=w1.heap.size:=af.bB;go_loopg [] (j::o).length (fun n wr=>∃dv a rest,n=rest.length/\Hid (C4 wr B rb f4 f5 tb rest {x with decl:=x.decl++a} dv (.slice A2 x.marks.length c2) (.slice A3 x.starts.length c3))/\Hid (Aj (fun k=>k=rb\/B<=k) w wr)/\Hid ((j::o).takeWhile Bg=a++rest.takeWhile Bg/\(j::o).dropWhile Bg=rest.dropWhile Bg))
   case atStart=>
    have b0:C4 w1 B rb f4 f5 tb (j::o) {x with decl:=x.decl++[]} (.slice A1 x.decl.length c1) (.slice A2 x.marks.length c2) (.slice A3 x.starts.length c3):=by rw[List.append_nil];exact af
    exact⟨.slice A1 x.decl.length c1,[],j::o,rfl,Hd b0,Hd (aa.mono (fun _ h=>.inl h)),Hd ⟨rfl,rfl⟩⟩
   case round=>
    obtain⟨dv,a,rest,rfl,HR,HC,a8⟩:=hrel;obtain⟨t3,r3,rfl⟩:=HR.A0.ended.cons;obtain⟨A,c,au⟩:=BF HR.decl;generalize ai:(x.decl++a).length=n at *;have ar:=HR.ld;have ay:({x with decl:=x.decl++a}:Bl).decl.length=n:=ai;simp at ar ai;subst au;have a9:=Hd HR.A0.sym;have az:=HR.bB;cases h3:Bg t3 with
    | false=>
     rw[h3]at a9;go_wp2_with (go_at_call 118;refine a9.mono ?_;rintro e R ⟨rfl,i⟩;subst i)
     refine bodyPost_ret (results_none rfl _ _ _) rfl ⟨HC,?_⟩;rw[HE.out];have h1:=a8.1;have I:=a8.2;rw[List.takeWhile_cons (a:=t3),if_neg (by rw[h3];simp),List.append_nil]at h1;rw[List.dropWhile_cons (x:=t3),if_neg (by rw[h3];simp)]at I;rw[h1,I];exact⟨rfl,_,_,_,HR⟩
    | true=>
     rw[h3]at a9;have ad:=Hd HR.drew;have ao:=Hd (ad.A0.take (Oj h3));have ah:=Hd h3;obtain⟨b1,_,_,_,_,_⟩:=ad.A0.cells;clear h3;go_wp2_with (go_at_call 118;refine a9.mono ?_;rintro e R ⟨rfl,i⟩;subst i)
     go_region_law (first
       | (
         refine EG LX (.tmp 20) (.tmp 23) ?_ ?_ (base:=B) (n:=n) (m:=1) (N:=n+1) (v:=.slice A n c) (src:=.slice (w3,0) 1 1) (xs:=(x.decl++a).flatMap Tk.cells) (news:=t3.cells) ?_ ?_ ?_ ?_ ?_ ?_ ?_ ?_ ?_
         · rfl
         · rfl
         · rfl
         · rfl
         · have:=T.decl
           rw[ay]at this;exact this.alloc _
         · exact Ma w3 _ _ _
         · rfl
         · unfold maxLen;omega
         · omega
         · simp;omega
         intro A4 c4 w4 q1 q2 P;have HF:=Hd (XE T (by simp;omega) (by simp;omega) q1 P);have J:=T.grown (B4 T.decl) P.1;obtain⟨cA,_,_,_,_,_⟩:=J.cells;have vA:=J.frozen 1;clear q1 q2 P J)
       | (
         go_simp;go_at_call 87;refine ao.mono ?_;intro e w3 hx;obtain⟨rfl,p,C⟩:=hx;have ab:=Hd p;have T:=Hd (ad.AE p (fun _ h=>h) C (by simp));obtain⟨d1,_,_,_,_,aj⟩:=C.cells;have v1:=C.frozen 1;have b4:wr.heap.size<=w3.heap.size:=p.size;clear p C))
     all_goals go_wp2
     all_goals go_roundg r3.length
     all_goals first
       | (case measure=>simp)
       | (case rel=>
          refine⟨.slice A4 (n+1) c4,a++[t3],r3,rfl,Hd ?_,Hd ?_,Hd ?_⟩
          · have:=HF.1
            rw[List.append_assoc]at this;exact this
          · exact(HC.drew.next (ab.mono (fun _ h=>.inl h))).next HF.2
          · have h1:=a8.1
            have I:=a8.2;rw[List.takeWhile_cons (a:=t3),if_pos ah.out]at h1;rw[List.dropWhile_cons (x:=t3),if_pos ah.out]at I;exact⟨by rw[h1];simp,I⟩)
 ·have hk:(t.k==7)=false:=by simp[U]
  rw[hk]at H7;by_cases h8:t.k=8
  ·have a3:(t.k==8)=true:=by simp[h8]
   rw[a3]at H8;obtain⟨j,o,rfl⟩:=(h.A0.ended.tail (by omega)).1.cons;have HD:=Hd h.drew;have HT:=Hd (HD.A0.take (by omega));obtain⟨_,b2,_,_,_,az⟩:=HD.A0.cells;have aw:=h.lm;have ax:=h.ls;simp at aw ax;have b8:=h.bB;have a4:Hid (j.k=1->Db x (t::j::o)=.ok ({x with marks:=x.marks++[t.p],starts:=x.starts++[j]},o)):=Hd (fun e=>by simp[Db,h8,Cu,e]);have a5:Hid (j.k≠1->Db x (t::j::o)=.error (DH (j::o))):=Hd (fun e=>by simp[Db,h8,Cu,e]);have b9:=XI t.k t.p (str t.s);clear h U h8 hk a3;go_enter Tryz.func86,Tryz.ntmps86
   go_wp2_with (first
    | (go_at_call 85;with_reducible refine H7.out.mono ?_;rintro e R ⟨rfl,i⟩;subst i)
    | (go_at_call 85;with_reducible refine H8.out.mono ?_;rintro e R ⟨rfl,i⟩;subst i))
   go_region_law (first
    | (
      refine EG P9 (.tmp 34) (.tmp 38) ?_ ?_ (base:=B) (n:=x.marks.length) (m:=1) (N:=x.marks.length+1) (v:=.slice A2 x.marks.length c2) (src:=.slice (w3,0) 1 1) (xs:=x.marks.map Mark) (news:=[Mark t.p]) ?_ ?_ ?_ ?_ ?_ ?_ ?_ ?_ ?_
      · rfl
      · rfl
      · rfl
      · rfl
      · exact T.marks.alloc _
      · exact Q3 w3 _
      · rfl
      · unfold maxLen;omega
      · omega
      · simp;omega
      intro A4 c4 w4 q1 q2 P;have HF:=Hd (eY T (by simp;omega) (by simp) q1 P);have J:=T.grown (B4 T.marks) P.1;obtain⟨_,cA,_,_,_,_⟩:=J.cells;have vA:=J.frozen 2;clear q1 q2 P J)
    | (
      go_simp;go_at_call 87;refine HT.mono ?_;intro e w3 hx;obtain⟨rfl,p,C⟩:=hx;have ab:=Hd p;have T:=Hd (HD.AE p (fun _ h=>h) C (by simp));obtain⟨_,d2,_,_,_,aj⟩:=C.cells;have v1:=C.frozen 2;have b4:w.heap.size<=w3.heap.size:=p.size;clear p C))
   all_goals go_wp2
   all_goals generalize b5:World.setCell w4 (rb,2) (.slice A4 (x.marks.length+1) c4)=w5 at *
   all_goals clear b2 d2 v1 cA vA b5
   all_goals have a6:=Hd HF.1.drew
   all_goals have ae:=Hd ((((Aj.refl (fun k=>k=rb\/B<=k) w).drew.next (ab.mono (fun _ h=>.inl h))).next HF.2).drew)
   all_goals have b7:=HF.1.bB
   all_goals have av:=HF.1.ld
   all_goals simp at av
   all_goals obtain⟨_,_,b3,_,_,ba⟩:=a6.A0.cells
   all_goals by_cases a2:j.k=1
   all_goals first
    | (
      have HW:=Hd (a6.A0.want 1 1 rfl a2 (by omega));replace a4:=Hd (a4 a2);clear a2 a5;go_region_law (first
        | (
          refine EG LX (.tmp 46) (.tmp 49) ?_ ?_ (base:=B) (n:=x.starts.length) (m:=1) (N:=x.starts.length+1) (v:=.slice A3 x.starts.length c3) (src:=.slice (w6,0) 1 1) (xs:=x.starts.flatMap Tk.cells) (news:=j.cells) ?_ ?_ ?_ ?_ ?_ ?_ ?_ ?_ ?_
          · rfl
          · rfl
          · rfl
          · rfl
          · exact a7.starts.alloc _
          · exact Ma w6 _ _ _
          · rfl
          · unfold maxLen;omega
          · omega
          · simp;omega
          intro A6 c6 w7 q1 q2 P;have HG:=Hd (Xr a7 (by simp;omega) (by simp) q1 P);have J:=a7.grown (B4 a7.starts) P.1;obtain⟨_,_,cA,_,_,_⟩:=J.cells;have vA:=J.frozen 3;clear q1 q2 P J)
        | (
          go_simp;go_at_call 120;refine HW.mono ?_;intro e w6 hx;obtain⟨rfl,p,C⟩:=hx;have an:=Hd p;have a7:=Hd (a6.AE p (fun _ h=>h) C (by simp));obtain⟨_,_,d2,_,_,aj⟩:=C.cells;have v1:=C.frozen 3;have bc:w5.heap.size<=w6.heap.size:=p.size;clear p C))
      all_goals go_wp2
      all_goals refine bodyPost_ret (results_none rfl _ _ _) rfl ⟨(ae.next (an.mono (fun _ h=>.inl h))).next HG.2,?_⟩
      all_goals rw[a4.out]
      all_goals exact⟨rfl,_,_,_,HG.1⟩)
    | (
      have HW:=Hd (a6.A0.Mc 1 1 rfl a2);replace a5:=Hd (a5 a2);clear a2 a4
      go_region_dies
      all_goals (refine HW.mono ?_;rintro e w6 ⟨rfl,aq⟩;exact⟨rfl,ae.next (.AJ aq),by rw[a5.out];exact BW.of rfl rfl⟩))
  ·have a3:(t.k==8)=false:=by simp[h8]
   rw[a3]at H8;have HE:Hid (Db x (t::r)=.error (DH (t::r))):=Hd (by simp[Db,U,h8]);clear h U h8 hk a3;go_enter Tryz.func86,Tryz.ntmps86
   go_wp2_with (first
    | (go_at_call 85;with_reducible refine H7.out.mono ?_;rintro e R ⟨rfl,i⟩;subst i)
    | (go_at_call 85;with_reducible refine H8.out.mono ?_;rintro e R ⟨rfl,i⟩;subst i)
    | (go_at_call 119;refine al.mono ?_;rintro e R ⟨rfl,i⟩;subst i))
   refine⟨rfl,Aj.refl _ _,?_⟩;rw[HE.out];exact BW.of rfl rfl
def IZ{w:World}{B i:Nat}{v:Value}(h:w.ownsRow B e size v n xs)(l:i<=B):w.ownsRow i e size v n xs:=by
 refine⟨h.1,?_⟩;rcases h.2 with p|⟨g,cap,j,rfl,o,rest⟩
 ·exact .inl p
 ·exact .inr ⟨g,cap,j,rfl,AW l o,rest⟩
structure GS where
 s:PS
 v:Value
def GS.cells(q:GS):List Value:=[q.v,.int .i64 q.s.p]
structure Br where
 left:Tk
 v:Value
 ss:List GS
def Br.cells(r:Br):List Value:=[.int .i64 r.left.k,.string (str r.left.s),.int .i64 r.left.p,r.v]
def Br.r(r:Br):PR:=⟨r.left,r.ss.map GS.s⟩
def IY(w:World)(B:Nat)(q:GS):Prop:=w.ownsRow B 173 3 q.v q.s.l.length (q.s.l.flatMap Tk.cells)
def IN(w:World)(B:Nat)(r:Br):Prop:=w.ownsRow B 183 2 r.v r.ss.length (r.ss.flatMap GS.cells)/\∀q∈r.ss,IY w B q
def IY.AE{w:World}{B:Nat}{q:GS}(h:IY w B q)(j:Aj X w w')(l:∀g,B<=g->g<w.heap.size->¬X g):IY w' B q:=
 j.own h (fun g i=>l g (B4 h g i).1 (B4 h g i).2)
def IN.AE{w:World}{B:Nat}{r:Br}(h:IN w B r)(i:Aj X w w')(l:∀g,B<=g->g<w.heap.size->¬X g):IN w' B r:=
 ⟨i.own h.1 (fun g j=>l g (B4 h.1 g j).1 (B4 h.1 g j).2),fun q o=>(h.2 q o).AE i l⟩
def Sj:El Tryz.prog 178 183 2 32:=El.of (z:=.agg #[.slice none 0 0,.int .i64 0]) Tryz.underlying178 (by kernel_rfl) rfl (by decide)
def bU:El Tryz.prog 140 180 4 56:=El.of (z:=.agg #[.int .i64 0,.string ⟨#[]⟩,.int .i64 0,.slice none 0 0]) Tryz.underlying140 (by kernel_rfl) rfl (by decide)
def P0(y:World)(A:Option Addr)(n c:Nat)(p:Int):AY (y.alloc (.cells #[.slice A n c,p] 183)) (.slice (y,0) 1 1) 1 2 [.slice A n c,.int .i64 p]:=
 AY.Ap (c:=1) (Ah.new y 183 #[.slice A n c,p]) rfl (by simp[Value.oneCell'])
structure Ht(w:World)(rb:Nat)(f1 f2 f3 f4 f5:Value)(tb:Option Nat)(bb:Nat)(t:Tk)(sv:Value)(ss:List GS)(rest:List Tk)(wr:World):Prop where
 A0:Cm wr rb f1 f2 f3 f4 f5 tb rest
 Ap:Ah wr bb 180 #[t.k,.string (str t.s),t.p,sv]
 own:wr.ownsRow w 183 2 sv ss.length (ss.flatMap GS.cells)
 Hl:∀q∈ss,IY wr w.heap.size q
 AE:Aj (·=rb) w wr
 bb:w.heap.size<=bb
 rb:rb<w.heap.size
 tb:∀g,tb=some g->g<w.heap.size
namespace Ht
variable {w wr:World} {rb:Nat} {f1 f2 f3 f4 f5:Value} {tb:Option Nat} {bb:Nat} {t:Tk} {sv:Value} {ss:List GS} {rest:List Tk}
def later(h:Ht w rb f1 f2 f3 f4 f5 tb bb t sv ss rest wr){j:World}{l:List Tk}(i:Aj (·=rb) wr j)(p:Cm j rb f1 f2 f3 f4 f5 tb l):Ht w rb f1 f2 f3 f4 f5 tb bb t sv ss l j:=by have J:=h.rb;have I:=h.bb;exact⟨p,i.Ap h.Ap (by omega),i.own h.own (CZ h.own h.rb),fun q o=>(h.Hl q o).AE i (fun g C _ e=>by omega),h.AE.next i,h.bb,h.rb,h.tb⟩
def drew(h:Ht w rb f1 f2 f3 f4 f5 tb bb t sv ss rest wr):Ht w rb f1 f2 f3 f4 f5 tb bb t sv ss rest wr.drew:=h.later ((Aj.refl _ _).drew) h.A0.drew
def rel(h:Ht w rb f1 f2 f3 f4 f5 tb bb t sv ss rest wr){l:World}{A:Option Addr}{c:Nat}(hn:j=j)
  (a3:Aj (·=rb) wr l) (C:Cm l rb f1 f2 f3 f4 f5 tb (rest.dropWhile Bg)) (a5:l.ownsRow wr 173 3 (.slice A (BR rest).l.length c) (BR rest).l.length ((BR rest).l.flatMap Tk.cells))
  (r1:w2.ownsRow w 183 2 (.slice j (ss.length+1) c2) (ss.length+1) (ss.flatMap GS.cells++[.slice A (BR rest).l.length c,.int .i64 (BR rest).p]))
  (o:AI w [183] (l.alloc (.cells #[.slice A (BR rest).l.length c,.int .i64 (BR rest).p] 183)) w2) :
  Ht w rb f1 f2 f3 f4 f5 tb bb t (.slice j (ss.length+1) c2) (ss++[⟨BR rest,.slice A (BR rest).l.length c⟩]) (rest.dropWhile Bg) (w2.setCell (bb,3) (.slice j (ss.length+1) c2)):=by
 have J:=h.later a3 C;have a6:=h.rb;have a0:=h.bb;have a7:rb≠bb:=by omega
 have a8:w.heap.size<=wr.heap.size:=h.AE.size;have P:Ah w2 bb 180 #[t.k,.string (str t.s),t.p,sv]:=o.Ap (J.Ap.alloc _) (.inr (by decide));have a4:Aj (·=rb) w w2:=(J.AE.alloc _).keeps o;have a1:∀q,IY l w.heap.size q->IY (w2.setCell (bb,3) (.slice j (ss.length+1) c2)) w.heap.size q:=by
  intro q i;have U:IY w2 w.heap.size q:=o.own ((Aj.refl (fun _=>False) l).alloc _ |>.own i (fun _ _=>id)) (.inr (by decide));refine EC U ?_ _;intro e;rcases Bi U with⟨I,_⟩|⟨b,c,I,_,_,_,_,a2,R⟩
  ·rw[I]at e;cases e
  ·rw[I]at e
   cases e
   exact Ah.Bf (t:=173) R P (by decide) rfl
 refine⟨⟨?_,C.ended,C.ne⟩,by simpa using P.Be 3 _,?_,?_,a4.set (p:=⟨bb,3,none⟩) (.inl a0) _,a0,a6,h.tb⟩
 ·obtain⟨lv,k1,k2,k3⟩:=C.ex
  refine⟨lv,(o.Ap (k1.alloc _) (.inr (by decide))).BA (by simpa using a7) _,?_,k3⟩;obtain⟨b,off,c,cs,rfl,T⟩:=k2;have hb:=h.tb b (by rw[<-k3];rfl);exact⟨b,off,c,cs,rfl,(o.Ap (T.Ap.alloc _) (.inl hb)).BA (by simp;omega) _,T.cap,T.cell⟩
 ·rw[show (ss++[⟨BR rest,.slice A (BR rest).l.length c⟩]:List GS).length=ss.length+1 by simp,List.flatMap_append]
  refine EC (by simpa [GS.cells] using r1) ?_ _;intro p;rcases Bi r1 with⟨e,_⟩|⟨b,c,e,_,_,_,_,a2,R⟩
  ·rw[e]at p;cases p
  ·rw[e]at p
   cases p
   exact Ah.Bf (t:=183) R P (by decide) rfl
 ·intro q i
  rcases mA.1 i with i|i
  ·exact a1 q (J.Hl q i)
  ·rw[mS]at i
   subst i;exact a1 _ (IZ a5 a8)
end Ht
section
open Go.RowKit Go.Maps
def IE:Keyed Tryz.prog 9:=string_keyed Tryz.underlying9
def LV(w:World):(zeroValue 3).run Tryz.prog w=.ok (.int .i64 0) w:=by kernel_rfl
def Cf(s:List UInt8):Lit:=.string s
def Mu(s:List UInt8):WideAt.IsKeyLit (Cf s):=by unfold Cf;simp[WideAt.IsKeyLit]
def Ph{a b:List UInt8}(h:Cf a=Cf b):a=b:=by unfold Cf at h;injection h
def Jo(D:DataW Unit)(L:List (List UInt8)):Prop:=∀s,D.atKey (Cf s) (.lit (.int .i64 0))=.lit (.int .i64 (L.count s))
def Jo.start:Jo (.map []) []:=fun s=>rfl
def Jo.next{D:DataW Unit}{L:List (List UInt8)}(h:Jo D L)(j:Maps.Tidy D)(s:List UInt8):Jo (D.put (Cf s) (.lit (.int .i64 (L.count s+1)))) (L++[s]):=by
 intro u;rw[List.count_append];by_cases e:u=s
 ·subst e
  rw[Maps.atKey_put_same j.isMap (Mu _)];simp
 ·rw[Maps.atKey_put_other (fun i=>e (Ph i)),h u]
  have:List.count u [s]=0:=by rw[List.count_eq_zero];simpa using e
  rw[this,Nat.add_zero]
def DY{w:World}{D:DataW Unit}(h:w.ownsMap Tryz.prog 9 (plainElem Tryz.prog 3) b n D)(l:Aj X w w')(o:¬X b):w'.ownsMap Tryz.prog 9 (plainElem Tryz.prog 3) b n D:=by obtain⟨j,clock,i,rest⟩:=h;exact⟨j,clock,(l.block b (aG.1 i).1 o).trans i,rest⟩
structure DS(w:World)(B rb mb:Nat)(tb:Option Nat)(l:List Tk)(x:Bl)(dv kv sv rv:Value)(rs:List Br)(D:DataW Unit):Prop where
 Bu:C4 w B rb rv (.map (some mb)) tb l x dv kv sv
 rules:w.ownsRow B 180 4 rv rs.length (rs.flatMap Br.cells)
 Hl:∀r∈rs,IN w B r
 map:w.ownsMap Tryz.prog 9 (plainElem Tryz.prog 3) mb rs.length D
 LW:Jo D (rs.map fun r=>r.left.s)
 Nz:mb<B
 mr:mb≠rb
 lr:rs.length+l.length<=100000
def IN.past{w:World}{B rb:Nat}{r:Br}{rv:Value}(h:IN w B r)(p:w.ownsRow B 180 4 rv n xs)(t:rb<B)(o:Aj (fun k=>k=rb\/rv.ownBlock=some k) w w'):IN w' B r:=by
 refine⟨o.own h.1 ?_,fun q l=>o.own (h.2 q l) ?_⟩
 ·rintro g i (rfl|j)
  ·exact CZ h.1 t _ i rfl
  ·exact Gf p h.1 (by decide) g j i
 ·rintro g i (rfl|j)
  ·exact CZ (h.2 q l) t _ i rfl
  ·exact Gf p (h.2 q l) (by decide) g j i
structure JV(w w7:World)(B rb mb bb:Nat)(tb:Option Nat)(l:List Tk)(x:Bl)(dv kv sv rv:Value)(rs:List Br)(q:Br)(D:DataW Unit):Prop where
 Bu:C4 w7 B rb rv (.map (some mb)) tb l x dv kv sv
 rules:w7.ownsRow B 180 4 rv (rs.length+1) ((rs++[q]).flatMap Br.cells)
 Hl:∀r∈rs++[q],IN w7 B r
 map:w7.ownsMap Tryz.prog 9 (plainElem Tryz.prog 3) mb rs.length D
 Ap:Ah w7 bb 180 #[q.left.k,.string (str q.left.s),q.left.p,q.v]
 AE:Aj (fun k=>k=rb\/B<=k) w w7
def jK{w I w6:World}{B rb mb bb:Nat}{tb:Option Nat}{l rest:List Tk}{x:Bl}{dv kv sv rv bv:Value}{j:List Br}{D:DataW Unit}{t:Tk}{ss:List GS}{J:Option Addr}{P:Nat}
  (h:DS w B rb mb tb l x dv kv sv rv j D) (p:Ht w rb dv kv sv rv (.map (some mb)) tb bb t bv ss rest I) (hl:rest.length<=l.length)
  (r1:w6.ownsRow B 180 4 (.slice J (j.length+1) P) (j.length+1) (j.flatMap Br.cells++[.int .i64 t.k,.string (str t.s),.int .i64 t.p,bv]))
  (r3:(I.alloc o).grownBy w6 rv.ownBlock/\((Value.slice J (j.length+1) P).ownBlock=rv.ownBlock\/(Value.slice J (j.length+1) P).ownBlock=some (I.alloc o).heap.size)) :
  JV w (w6.setCell (rb,4) (.slice J (j.length+1) P)) B rb mb bb tb rest x dv kv sv (.slice J (j.length+1) P) j ⟨t,bv,ss⟩ D:=by
 have a0:=h.Bu.EA;have a8:=p.bb;have a3:=h.Bu.bB;have i:C4 I B rb rv (.map (some mb)) tb rest x dv kv sv:=h.Bu.AE p.AE (fun _ h=>h) p.A0 hl;have a2:I.ownsRow B 180 4 rv j.length (j.flatMap Br.cells):=p.AE.own h.rules (CZ h.rules a0);have hX:Aj (fun k=>rv.ownBlock=some k) I w6:=((Aj.refl _ I).alloc o).next (.CE r3.1);have a1:∀k,rv.ownBlock=some k->B<=k:=fun k hk=>(B4 h.rules k hk).1
 have a5:∀k,rv.ownBlock=some k->k<w.heap.size:=fun k hk=>(B4 h.rules k hk).2
 have R:Aj (fun k=>k=rb\/rv.ownBlock=some k) I (w6.setCell (rb,4) (.slice J (j.length+1) P)):=(hX.mono (fun a4 hi=>.inr hi)).set (p:=⟨rb,4,none⟩) (.inr (.inl rfl)) _;have e1:¬rv.ownBlock=some rb:=fun e=>by have:=a1 _ e;omega
 have a7:Cm (w6.setCell (rb,4) (.slice J (j.length+1) P)) rb dv kv sv (.slice J (j.length+1) P) (.map (some mb)) tb rest:=by
  obtain⟨lv,k1,k2,k3⟩:=p.A0.ex;refine⟨⟨lv,by simpa using(hX.Ap k1 e1).Be 4 _,k2.AE R ?_,k3⟩,p.A0.ended,p.A0.ne⟩;intro g C;rw[k3]at C;rintro(rfl|U)
  ·exact p.A0.ne C
  ·have:=h.Bu.GD g C;have:=a1 g U;omega
 have a6:∀r∈j++[(⟨t,bv,ss⟩:Br)],IN I B r:=by
  intro r T;rcases mA.1 T with T|T
  ·exact(h.Hl r T).AE p.AE (fun g h1 _ e=>by omega)
  ·rw[mS]at T
   subst T;exact⟨IZ p.own a3,fun q hq=>IZ (p.Hl q hq) a3⟩
 have hT:Aj (fun k=>k=rb\/B<=k) I (w6.setCell (rb,4) (.slice J (j.length+1) P)):=R.mono (fun a4 hi=>hi.imp id (a1 a4));refine⟨?_,?_,fun r T=>(a6 r T).past a2 a0 R,?_,?_,(p.AE.mono (fun _ h=>.inl h)).next hT⟩
 ·refine⟨a7,R.own i.decl ?_,R.own i.marks ?_,R.own i.starts ?_,i.apart,i.EA,i.GD,AW i.bB R.size,i.ld,i.lm,i.ls⟩
  ·rintro g C (rfl|U)
   ·exact CZ i.decl a0 _ C rfl
   ·exact Gf a2 i.decl (by decide) g U C
  ·rintro g C (rfl|U)
   ·exact CZ i.marks a0 _ C rfl
   ·exact Gf a2 i.marks (by decide) g U C
  ·rintro g C (rfl|U)
   ·exact CZ i.starts a0 _ C rfl
   ·exact Gf a2 i.starts (by decide) g U C
 ·rw[List.flatMap_append]
  exact EC (by simpa [Br.cells] using r1) (fun e=>CZ r1 a0 _ e rfl) _
 ·refine DY (DY h.map p.AE h.mr) R ?_
  rintro(e|e)
  ·exact h.mr e
  ·have:=a1 _ e;have:=h.Nz;omega
 ·refine R.Ap p.Ap ?_
  rintro(rfl|e)
  ·have:=p.rb;omega
  ·have:=a5 _ e;omega
def Aj.of_map{w:World}(h:w.grownBy w' (some b)):Aj (·=b) w w':=⟨h.os,h.tape,h.output,h.size,fun k i j=>h.block k i (fun e=>j (by injection e))⟩
def JV.last{w T p:World}{B rb mb U:Nat}{tb:Option Nat}{l R:List Tk}{x:Bl}{t J rv a3:Value}{j:List Br}{q:Br}{D:DataW Unit}
  (h0:DS w B rb mb tb R x t I J a3 j D) (hl:l.length<R.length) (h:JV w T B rb mb U tb l x t I J rv j q D) (hg:T.grownBy p (some mb))
  (hm:p.ownsMap Tryz.prog 9 (plainElem Tryz.prog 3) mb (j.length+1) (D.put (Cf q.left.s) (.lit (.int .i64 ((j.map fun r=>r.left.s).count q.left.s+1))))) :
  DS p B rb mb tb l x t I J rv (j++[q]) (D.put (Cf q.left.s) (.lit (.int .i64 ((j.map fun r=>r.left.s).count q.left.s+1))))/\Aj (fun k=>k=rb\/B<=k\/k=mb) w p:=by
 have i:=Aj.of_map hg;have o:=h0.Nz;have a1:=h0.Bu.EA;have a4:=h0.lr;have a5:=h.Bu.A0.lt;refine⟨⟨?_,?_,fun r hr=>(h.Hl r hr).AE i (fun g h1 _ e=>by omega),by simpa using hm,?_,o,h0.mr,by simp;omega⟩,(h.AE.mono (fun a2 C=>C.imp id .inl)).next (i.mono (fun a2 C=>.inr (.inr C)))⟩
 ·exact⟨h.Bu.A0.AE i (Ne.symm h0.mr) (fun g P e=>by
   subst e;obtain⟨lv,_,k2,k3⟩:=h.Bu.A0.ex;obtain⟨b,off,c,cs,rfl,a0⟩:=k2;rw[<-k3]at P;cases P
   obtain⟨es,clock,hb,_⟩:=h.map;have:=a0.Ap;unfold Ah at this;rw[hb]at this;cases this),i.own h.Bu.decl (CZ h.Bu.decl o),i.own h.Bu.marks (CZ h.Bu.marks o),i.own h.Bu.starts (CZ h.Bu.starts o),h.Bu.apart,a1,h.Bu.GD,AW h.Bu.bB i.size,h.Bu.ld,h.Bu.lm,h.Bu.ls⟩
 ·rw[show (j++[q]).length=j.length+1 by simp]
  exact i.own h.rules (CZ h.rules o)
 ·rw[By]
  exact h0.LW.next (h0.map.tidy IE) q.left.s
end
end Go.Proofs.YtlogpnoioimhjaaGreatDoor
