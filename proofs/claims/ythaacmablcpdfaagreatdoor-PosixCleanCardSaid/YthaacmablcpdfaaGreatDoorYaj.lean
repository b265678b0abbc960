/- The shelf's contracts of strings. Tokens of a grammar's text. Tokens of a grammar's text. Tokens of a grammar's text. Tokens of a grammar's text. The reader's small steps. The reader. The reader. The reader. The reader. The reader. -/
import Derived.Shelf.Strings.Search1
import Derived.Shelf.Strings.Search2
import Derived.Shelf.Strings.Search3
import Derived.Shelf.LaysM
import Derived.Shelf.Strings.Shaped
import Derived.Shelf.Strings.Prefix
import Derived.Test.YthaacmablcpdfaaGreatDoorProg
import Derived.Test.YthaacmablcpdfaaGreatDoorYac
import Derived.Test.YthaacmablcpdfaaGreatDoorYab
import Derived.WalkSpells
import Derived.Lib.IndexMore
import Derived.Deep.RegionLaw
import Derived.Deep.LoopGhost
import Derived.BigRegion
import Derived.RegionDies
import Derived.Maps.Own
import Derived.Maps.OwnOps
import Derived.Maps.OwnSet
import Derived.Maps.Views
import Derived.StringKeys
import Derived.Test.YthaacmablcpdfaaGreatDoorYn
set_option linter.unusedVariables false
set_option maxRecDepth 100000
set_option maxHeartbeats 16000000
namespace Go.Proofs
open Go.Shelf
def Tryz.YR:Go.Shelf.Ren:=⟨fun|217=>218|266=>232|n=>n,fun|9=>9|5=>5|3=>3|n=>n,fun|n=>n⟩
theorem Tryz.bF:Go.Proofs.Lays.n217 Tryz.prog Tryz.YR:={
 mixed:=by kernel_rfl
 f217:=Tryz.func218.trans (congrArg some (by kernel_rfl))
 f266:=Tryz.func232.trans (congrArg some (by kernel_rfl))
 t3:=Tryz.underlying3
 a3:=Tryz.isAgg3
 z3:=Tryz.sizeOf3
 v3:=Tryz.zeroValue3
 t5:=Tryz.underlying5
 a5:=Tryz.isAgg5
 z5:=Tryz.sizeOf5
 v5:=Tryz.zeroValue5
 t9:=Tryz.underlying9
 a9:=Tryz.isAgg9
 z9:=Tryz.sizeOf9
 v9:=Tryz.zeroValue9}
open Go.RowKit Go.Lib in
theorem Tryz.stringslite_IndexByte(s:ByteArray)(c:Int)(w:World) :
 Calls Tryz.prog 218 #[.string s,.int .u8 c] w fun e w'=>e=.returned (.int .i64 (Lib.indexByte s.data.toList c.toNat.toUInt8))/\w'=w:=Any.stringslite_IndexByte Tryz.bF s c w
def Tryz.iJ:Go.Shelf.Ren:=⟨fun|219=>220|217=>218|225=>233|224=>234|267=>235|266=>232|314=>241|n=>n,fun|9=>9|3=>3|4=>4|5=>5|46=>219|146=>313|51=>305|n=>n,fun|1=>2|n=>n⟩
def Tryz.gO:Go.Shelf.Ren:=⟨fun|143=>204|219=>220|217=>218|225=>233|224=>234|267=>235|266=>232|314=>241|n=>n,fun|9=>9|3=>3|4=>4|5=>5|46=>219|146=>313|51=>305|n=>n,fun|1=>2|n=>n⟩
theorem Tryz.YH:Go.Proofs.Lays.n143 Tryz.prog Tryz.gO:={
 mixed:=by kernel_rfl
 f143:=Tryz.func204.trans (congrArg some (by kernel_rfl))
 f217:=Tryz.func218.trans (congrArg some (by kernel_rfl))
 f219:=Tryz.func220.trans (congrArg some (by kernel_rfl))
 f224:=Tryz.func234.trans (congrArg some (by kernel_rfl))
 f225:=Tryz.func233.trans (congrArg some (by kernel_rfl))
 f266:=Tryz.func232.trans (congrArg some (by kernel_rfl))
 f267:=Tryz.func235.trans (congrArg some (by kernel_rfl))
 f314:=Tryz.func241.trans (congrArg some (by kernel_rfl))
 t3:=Tryz.underlying3
 a3:=Tryz.isAgg3
 z3:=Tryz.sizeOf3
 v3:=Tryz.zeroValue3
 t4:=Tryz.underlying4
 a4:=Tryz.isAgg4
 z4:=Tryz.sizeOf4
 v4:=Tryz.zeroValue4
 t5:=Tryz.underlying5
 a5:=Tryz.isAgg5
 z5:=Tryz.sizeOf5
 v5:=Tryz.zeroValue5
 t9:=Tryz.underlying9
 a9:=Tryz.isAgg9
 z9:=Tryz.sizeOf9
 v9:=Tryz.zeroValue9
 t46:=Tryz.underlying219
 a46:=Tryz.isAgg219
 z46:=Tryz.sizeOf219
 v46:=Tryz.zeroValue219
 t51:=Tryz.underlying305
 a51:=Tryz.isAgg305
 z51:=Tryz.sizeOf305
 v51:=Tryz.zeroValue305
 t146:=Tryz.underlying313
 a146:=Tryz.isAgg313
 z146:=Tryz.sizeOf313
 v146:=Tryz.zeroValue313
 g1:=by kernel_rfl}
open Go.RowKit Go.Lib in
theorem Tryz.strings_Index(s sub:ByteArray)(m:Int)(w:World)(hs:s.size<4294967281)(hm:w.cell? ⟨2,0,none⟩=some (.int .i64 m)) :
 Calls Tryz.prog 204 #[.string s,.string sub] w fun e w'=>e=.returned (.int .i64 (Lib.index s.data.toList sub.data.toList))/\w'=w:=Any.strings_Index Tryz.YH s sub m w hs hm
def Tryz.iH:Go.Shelf.Ren:=⟨fun|206=>219|n=>n,fun|9=>9|4=>4|3=>3|n=>n,fun|n=>n⟩
def Tryz.gS:Go.Shelf.Ren:=⟨fun|99=>203|206=>219|n=>n,fun|9=>9|4=>4|3=>3|n=>n,fun|n=>n⟩
theorem Tryz.XZ:Go.Proofs.Lays.n99 Tryz.prog Tryz.gS:={
 mixed:=by kernel_rfl
 f99:=Tryz.func203.trans (congrArg some (by kernel_rfl))
 f206:=Tryz.func219.trans (congrArg some (by kernel_rfl))
 t3:=Tryz.underlying3
 a3:=Tryz.isAgg3
 z3:=Tryz.sizeOf3
 v3:=Tryz.zeroValue3
 t4:=Tryz.underlying4
 a4:=Tryz.isAgg4
 z4:=Tryz.sizeOf4
 v4:=Tryz.zeroValue4
 t9:=Tryz.underlying9
 a9:=Tryz.isAgg9
 z9:=Tryz.sizeOf9
 v9:=Tryz.zeroValue9}
open Go.RowKit Go.Lib in
theorem Tryz.strings_HasPrefix(s p:ByteArray)(w:World) :
 Calls Tryz.prog 203 #[.string s,.string p] w fun e w'=>e=.returned (.bool (Lib.hasPrefix s.data.toList p.data.toList))/\w'=w:=Any.strings_HasPrefix Tryz.XZ s p w
end Go.Proofs
namespace Go.Proofs.YthaacmablcpdfaaGreatDoor
open Go.RowKit
theorem MH{p:UInt8->Bool}(c:UInt8)(l:List UInt8):B7 p (c::l)=if p c then B7 p l+1 else 0:=by unfold B7;rw[List.takeWhile_cons];split<;>simp
theorem LO(p:UInt8->Bool)(l:List UInt8):B7 p l<=l.length:=(List.takeWhile_sublist p).length_le
theorem WQ(c:UInt8)(w:World):Calls Tryz.prog 165 #[.int .u8 c.toNat] w fun e w'=>e=.returned (.bool (Cy c))/\w=w':=by
 have i:=Hd (NQ c w);unfold Cy;generalize BD c=k at *;go_enter Tryz.func165,Tryz.ntmps165
 cases l:(k==4) with
 | true=>
  have p:((k:Int)==4)=true:=by rw[beq_iff_eq]at l ⊢;omega
  go_wp2_with (go_at_call 164;refine i.out.mono ?_;rintro e w' ⟨rfl,rfl⟩)
  go_ret;exact⟨rfl,rfl⟩
 | false=>
  have p:((k:Int)==4)=false:=by rw[bN]at l ⊢;omega
  have j:((k:Int)==3)=(k==3):=by rw[Bool.eq_iff_iff,beq_iff_eq,beq_iff_eq];omega
  have o:=Hd j;clear j;go_wp2_with (go_at_call 164;refine i.out.mono ?_;rintro e w' ⟨rfl,rfl⟩)
  go_ret;refine⟨?_,rfl⟩;rw[<-o.out];rfl
def Zi(n:Int):Bool:=decide (0<=Lib.indexByte [32,9,10,13] n.toNat.toUInt8)
theorem Ut:J4.all (fun c=>Zi c.toNat==FT c)=true:=by kernel_rfl
theorem T7(c:UInt8):decide (0<=Lib.indexByte [32,9,10,13] (c.toNat:Int).toNat.toUInt8)=FT c:=beq_iff_eq.1 (List.all_eq_true.1 Ut c (KP c))
theorem gY(s:ByteArray)(c:Int)(w:World):Calls Tryz.prog 202 #[.string s,.int .u8 c] w fun e w'=>e=.returned (.int .i64 (Lib.indexByte s.data.toList c.toNat.toUInt8))/\w'=w:=by
 have i:=Hd (Tryz.stringslite_IndexByte s c w);go_enter Tryz.func202,Tryz.ntmps202
 go_wp2_with (go_at_call 218;refine i.out.mono ?_;rintro e w' ⟨rfl,rfl⟩)
 go_ret;exact⟨rfl,rfl⟩
theorem S8(c:UInt8)(w:World):Calls Tryz.prog 160 #[.int .u8 c.toNat] w fun e w'=>e=.returned (.bool (FT c))/\w=w':=by
 have i:=Hd (gY ⟨#[32,9,10,13]⟩ c.toNat w);have j:=Hd (T7 c);generalize Lib.indexByte (⟨#[32,9,10,13]⟩:ByteArray).data.toList (c.toNat:Int).toNat.toUInt8=k at *;go_enter Tryz.func160,Tryz.ntmps160
 go_wp2_with (go_at_call 202;refine i.out.mono ?_;rintro e w' ⟨rfl,rfl⟩)
 go_ret;refine⟨?_,rfl⟩;rw[<-j.out];rfl
theorem X5(c:UInt8)(w:World):Calls Tryz.prog 166 #[.int .u8 c.toNat] w fun e w'=>e=.returned (.int .i64 (I2 c))/\w=w':=by
 have p:(c=58)=((c.toNat:Int)=58):=by rw[<-UInt8.toNat_inj];show (c.toNat=58)=_;rw[eq_iff_iff];omega
 have o:(c=124)=((c.toNat:Int)=124):=by rw[<-UInt8.toNat_inj];show (c.toNat=124)=_;rw[eq_iff_iff];omega
 have t:(c=59)=((c.toNat:Int)=59):=by rw[<-UInt8.toNat_inj];show (c.toNat=59)=_;rw[eq_iff_iff];omega
 unfold I2;simp only[p,o,t];clear p o t;generalize (c.toNat:Int)=n;by_cases i:n=58
 ·subst i
  go_enter Tryz.func166,Tryz.ntmps166
  go_wp2;go_ret;exact⟨rfl,rfl⟩
 by_cases j:n=124
 ·subst j
  go_enter Tryz.func166,Tryz.ntmps166
  go_wp2;go_ret;exact⟨rfl,rfl⟩
 by_cases l:n=59
 ·subst l
  go_enter Tryz.func166,Tryz.ntmps166
  go_wp2;go_ret;exact⟨rfl,rfl⟩
 rw[if_neg i,if_neg j,if_neg l];have C:(n==58)=false:=bN.2 i;have I:(n==124)=false:=bN.2 j;have J:(n==59)=false:=bN.2 l;clear i j l;go_enter Tryz.func166,Tryz.ntmps166
 go_wp2;go_ret;exact⟨rfl,rfl⟩
def Qj(s:ByteArray)(p k:Nat):Prop:=p+k<=s.size/\B7 FT (s.data.toList.drop p)=k+B7 FT (s.data.toList.drop (p+k))
theorem cQ(s:ByteArray)(R:s.size<=4611686018427387904)(p:Nat)(P:p<=s.size)(w:World):Calls Tryz.prog 161 #[.string s,.int .i64 p,.func (.func 160) #[] #[]] w fun e w'=>e=.returned (.int .i64 (B7 FT (s.data.toList.drop p)))/\w=w':=by
 go_enter Tryz.func161,Tryz.ntmps161
 go_wp2
 go_loop [7] (fun n=>∃k:Nat,p+k<=s.size/\n=.int .i64 k/\Hid (Qj s p k)) (fun n=>s.size-(intOf n).toNat)
 case atStart=>exact⟨0,by omega,rfl,Hd ⟨by omega,by simp⟩⟩
 case round=>
  obtain⟨k,J,rfl,t⟩:=hrel;by_cases I:p+k<s.size
  ·have C:=Hd (Hk s (p+k) I)
   have o:=Hd (S8 s[p+k] w);cases j:FT s[p+k] with
   | true=>
    rw[j]at o;have l:Hid (Qj s p (k+1)):=Hd ⟨by omega,by have i:=t.out.2;rw[C.out,MH,if_pos j]at i;rw[i];show k+(B7 FT (s.data.toList.drop (p+k+1))+1)=k+1+B7 FT (s.data.toList.drop (p+(k+1)));rw[Nat.add_assoc p k 1];omega⟩
    clear j;go_wp2_with (go_at_call 160;refine o.out.mono ?_;rintro e w' ⟨rfl,rfl⟩)
    go_round
    case rel=>exact⟨k+1,by omega,by go_num,l⟩
    case measure=>simp[intOf];omega
   | false=>
    rw[j]at o;have l:Hid (B7 FT (s.data.toList.drop p)=k):=Hd (by have i:=t.out.2;rw[C.out,MH,j]at i;simpa using i)
    clear j;go_wp2_with (go_at_call 160;refine o.out.mono ?_;rintro e w' ⟨rfl,rfl⟩)
    go_ret;exact⟨FC l.out.symm,rfl⟩
  ·have l:Hid (B7 FT (s.data.toList.drop p)=k):=Hd (by
    have i:=t.out.2;rw[show s.data.toList.drop (p+k)=[] from List.drop_of_length_le (by simp;omega)]at i;simpa [B7] using i)
   go_wp2;go_ret;exact⟨FC l.out.symm,rfl⟩
def PC(s:ByteArray)(p k:Nat):Prop:=p+k<=s.size/\B7 Cy (s.data.toList.drop p)=k+B7 Cy (s.data.toList.drop (p+k))
theorem P8(s:ByteArray)(R:s.size<=4611686018427387904)(p:Nat)(P:p<=s.size)(w:World):Calls Tryz.prog 161 #[.string s,.int .i64 p,.func (.func 165) #[] #[]] w fun e w'=>e=.returned (.int .i64 (B7 Cy (s.data.toList.drop p)))/\w=w':=by
 go_enter Tryz.func161,Tryz.ntmps161
 go_wp2
 go_loop [7] (fun n=>∃k:Nat,p+k<=s.size/\n=.int .i64 k/\Hid (PC s p k)) (fun n=>s.size-(intOf n).toNat)
 case atStart=>exact⟨0,by omega,rfl,Hd ⟨by omega,by simp⟩⟩
 case round=>
  obtain⟨k,J,rfl,t⟩:=hrel;by_cases I:p+k<s.size
  ·have C:=Hd (Hk s (p+k) I)
   have o:=Hd (WQ s[p+k] w);cases j:Cy s[p+k] with
   | true=>
    rw[j]at o;have l:Hid (PC s p (k+1)):=Hd ⟨by omega,by have i:=t.out.2;rw[C.out,MH,if_pos j]at i;rw[i];show k+(B7 Cy (s.data.toList.drop (p+k+1))+1)=k+1+B7 Cy (s.data.toList.drop (p+(k+1)));rw[Nat.add_assoc p k 1];omega⟩
    clear j;go_wp2_with (go_at_call 165;refine o.out.mono ?_;rintro e w' ⟨rfl,rfl⟩)
    go_round
    case rel=>exact⟨k+1,by omega,by go_num,l⟩
    case measure=>simp[intOf];omega
   | false=>
    rw[j]at o;have l:Hid (B7 Cy (s.data.toList.drop p)=k):=Hd (by have i:=t.out.2;rw[C.out,MH,j]at i;simpa using i)
    clear j;go_wp2_with (go_at_call 165;refine o.out.mono ?_;rintro e w' ⟨rfl,rfl⟩)
    go_ret;exact⟨FC l.out.symm,rfl⟩
  ·have l:Hid (B7 Cy (s.data.toList.drop p)=k):=Hd (by
    have i:=t.out.2;rw[show s.data.toList.drop (p+k)=[] from List.drop_of_length_le (by simp;omega)]at i;simpa [B7] using i)
   go_wp2;go_ret;exact⟨FC l.out.symm,rfl⟩
theorem Gx(k:Int)(i:(k==0)=false)(p:Int)(w:World):Calls Tryz.prog 67 #[.int .i64 k,.int .i64 p] w fun e w'=>e=.returned (.iface 202 (.pointer (some ⟨w.heap.size,0,none⟩)))/\w'=w.alloc (.cells #[.int .i64 k,.int .i64 p] 204):=by
 go_enter Tryz.func67,Tryz.ntmps67
 go_wp2;go_ret;exact⟨rfl,rfl⟩
def Ji(w:World)(v:Value)(f:Bi):Prop:=∃b,v=.iface 202 (.pointer (some ⟨b,0,none⟩))/\Ah w b 204 #[.int .i64 f.1,.int .i64 f.2]
theorem Ji.new(w:World)(e p:Nat):Ji (w.alloc (.cells #[.int .i64 e,.int .i64 p] 204)) (.iface 202 (.pointer (some ⟨w.heap.size,0,none⟩))) (e,p):=⟨_,rfl,Ah.new _ _ _⟩
def En(w:World)(r:Except Bi (Nat×Nat))(e:Ending)(w':World):Prop:=
 Below w.heap.size w w'/\match r with
 | .ok (k,n)=>e=.returned (.tuple #[.int .i64 n,.nilIface])
 | .error f=>∃v,e=.returned (.tuple #[.int .i64 0,v])/\Ji w' v f
theorem En.err(w:World)(e p:Nat):En w (.error (e,p)) (.returned (.tuple #[.int .i64 0,.iface 202 (.pointer (some ⟨w.heap.size,0,none⟩))])) (w.alloc (.cells #[.int .i64 e,.int .i64 p] 204)):=
 ⟨Ay _ _,_,rfl,.new _ _ _⟩
theorem En.KF(w:World)(e p:Nat)(q:Int)(h:q=p):En w (.error (e,p)) (.returned (.tuple #[.int .i64 0,.iface 202 (.pointer (some ⟨w.heap.size,0,none⟩))])) (w.alloc (.cells #[.int .i64 e,.int .i64 q] 204)):=by subst h;exact .err w e p
theorem En.Ir(w:World)(k n:Nat)(q:Int)(h:q=n):En w (.ok (k,n)) (.returned (.tuple #[.int .i64 q,.nilIface])) w:=by subst h;exact⟨Below.refl _ _,rfl⟩
theorem cC(s:ByteArray)(p k:Nat)(h:p+(1+k)<s.size):(s.data.toList.drop (p+1))[k]?=some s[p+(1+k)]:=by rw[List.getElem?_drop,Nat.add_assoc];exact get_some s _ h
theorem Ug(s:ByteArray)(hs:s.size<=4611686018427387904)(p:Nat)(hp:p<s.size)(w:World):Calls Tryz.prog 131 #[.string s,.int .i64 p] w (En w (JM s.size p (s.data.toList.drop (p+1)))):=by
 have j:=Hd (Nj s hs (p+1) (by omega) w);have hk:Bg (s.data.toList.drop (p+1))<s.size:=by have:=QZ (s.data.toList.drop (p+1));simp only[List.length_drop,G8]at this;omega
 have I:=cC s p (Bg (s.data.toList.drop (p+1)));unfold JM;generalize Bg (s.data.toList.drop (p+1))=k at *;generalize s.data.toList.drop (p+1)=r at *;have J:(p:Int)+1=((p+1:Nat):Int):=by omega
 rw[<-J]at j;have R:(p:Int)+(1+(k:Int))=((p+1+k:Nat):Int):=by omega
 by_cases t:s.size<=p+1+k
 ·rw[if_pos t]
  have q1:(s.size:Int)<=(p:Int)+(1+(k:Int)):=by omega
  clear I t J R;go_enter Tryz.func131,Tryz.ntmps131
  go_wp2_with fail
  refine j.out.mono ?_;rintro e i ⟨rfl,rfl⟩;go_wp2_with (go_at_call 67;refine(Gx _ rfl _ _).mono ?_;rintro e i ⟨rfl,rfl⟩)
  go_ret2
  exact En.err _ _ _
 rw[if_neg t];have a0:p+(1+k)<s.size:=by omega
 have P:=I a0;rw[P];clear I P J R;have q1:¬(s.size:Int)<=(p:Int)+(1+(k:Int)):=by omega
 have q2:(p:Int)+(1+(k:Int))<(s.size:Int):=by omega
 by_cases l:s[p+(1+k)]=39
 ·have U:((s[p+(1+k)].toNat:Int) != 39)=false:=by rw[l];rfl
  rw[l];clear l;by_cases C:k=0
  ·subst C
   rw[if_pos (.inr rfl)];go_enter Tryz.func131,Tryz.ntmps131
   go_wp2_with fail
   refine j.out.mono ?_;rintro e i ⟨rfl,rfl⟩;go_wp2_with (go_at_call 67;refine(Gx _ rfl _ _).mono ?_;rintro e i ⟨rfl,rfl⟩)
   go_ret2
   exact En.KF _ 2 (p+1+0) _ (by omega)
  ·rw[if_neg (by rintro(h|h)<;>simp_all)]
   have h7:((1:Int)+(k:Int)==1)=false:=bN.2 (by omega);by_cases o:24<=1+k
   ·rw[if_pos o]
    have T:24<=(1:Int)+(k:Int):=by omega
    clear C o;go_enter Tryz.func131,Tryz.ntmps131
    go_wp2_with fail
    refine j.out.mono ?_;rintro e i ⟨rfl,rfl⟩;go_wp2_with (go_at_call 67;refine(Gx _ rfl _ _).mono ?_;rintro e i ⟨rfl,rfl⟩)
    go_ret2
    exact En.err _ 5 p
   ·rw[if_neg o]
    have T:¬24<=(1:Int)+(k:Int):=by omega
    clear C o;go_enter Tryz.func131,Tryz.ntmps131
    go_wp2_with fail
    refine j.out.mono ?_;rintro e i ⟨rfl,rfl⟩;go_wp2
    go_ret2
    exact En.Ir _ 2 (k+2) _ (by omega)
 ·have U:((s[p+(1+k)].toNat:Int) != 39)=true:=by
   rw[bne_iff_ne];intro e;exact l (UInt8.toNat_inj.1 (by show s[p+(1+k)].toNat=39;omega))
  rw[if_pos (.inl (by simpa using l))];clear l;go_enter Tryz.func131,Tryz.ntmps131
  go_wp2_with fail
  refine j.out.mono ?_;rintro e i ⟨rfl,rfl⟩;go_wp2_with (go_at_call 67;refine(Gx _ rfl _ _).mono ?_;rintro e i ⟨rfl,rfl⟩)
  go_ret2
  exact En.KF _ 2 (p+1+k) _ (by omega)
def Gk(w:World):Prop:=∃m:Int,w.cell? ⟨2,0,none⟩=some (.int .i64 m)
theorem Gk.later{w w':World}(h:Gk w)(j:Below w.heap.size w w'):Gk w':=by obtain⟨m,i⟩:=h;exact⟨m,(j.cell (p:=⟨2,0,none⟩) (World.block_lt_of_cell? w _ i)).trans i⟩
theorem MX(s:ByteArray)(p:Nat):(s.extract p s.size).data.toList=s.data.toList.drop p:=by rw[Lib.extract_data];exact Ds (by simp)
theorem index_le(sub:List UInt8):∀(l:List UInt8),Lib.index l sub<=l.length
 | []=>by unfold Lib.index;split<;>simp
 | b::l=>by
  have i:=index_le sub l;unfold Lib.index;split
  ·exact Int.natCast_nonneg _
  ·split
   ·simp;omega
   ·rw[List.length_cons];omega
theorem Qw(c d:UInt8)(r:List UInt8):Lib.hasPrefix (c::r) [c,d]=(r.head?==some d):=by
 unfold Lib.hasPrefix;cases r with
 | nil=>simp[List.isPrefixOf]
 | cons a l=>simp[List.isPrefixOf];exact Bool.beq_comm
theorem Uz(s:ByteArray)(p:Nat):(s.data.toList.drop (p+1)).drop 1=s.data.toList.drop (p+2):=by rw[List.drop_drop]
theorem cM{s:ByteArray}{p:Nat}{c:UInt8}(h:(s.data.toList.drop (p+1)).head?=some c):p+1<s.size:=by rw[List.head?_drop]at h;have:=(sG.1 h).1;simpa using this
theorem gA(s:ByteArray)(hs:s.size<=8192)(p:Nat)(hp:p<s.size)(P:s[p]=47)(w:World)(j:Gk w):Calls Tryz.prog 162 #[.string s,.int .i64 p] w (En w (Jz s.size p (s.data.toList.drop (p+1)))):=by
 obtain⟨m,j⟩:=j;have a0:Lib.hasPrefix (s.extract p s.size).data.toList [47,42]=((s.data.toList.drop (p+1)).head?==some 42):=by rw[MX,Hk s p hp,P,Qw]
 have I:=Tryz.strings_HasPrefix (s.extract p s.size) ⟨#[47,42]⟩ w;rw[a0]at I;have l:=Hd I;clear I a0 P;have T:=Uz s p;have t:=@cM s p 42;unfold Jz;rw[T];clear T;generalize hr:(s.data.toList.drop (p+1)).head?=a1 at *;clear hr;by_cases o:a1=some 42
 ·subst o
  have a3:=t rfl;clear t;have U:(s.extract (p+2) s.size).data.toList=s.data.toList.drop (p+2):=MX s (p+2);have C:=Tryz.strings_Index (s.extract (p+2) s.size) ⟨#[42,47]⟩ m w (by rw[ByteArray.size_extract];omega) j;rw[U]at C;have J:=Hd C;clear C U j;rw[if_pos rfl];generalize hk:Lib.index (s.data.toList.drop (p+2)) (⟨#[42,47]⟩:ByteArray).data.toList=k at *;have a2:k<=8192 /\ -1<=k:=by rw[<-hk];have h1:=index_le (⟨#[42,47]⟩:ByteArray).data.toList (s.data.toList.drop (p+2));have h2:=Lib.index_ge (s.data.toList.drop (p+2)) (⟨#[42,47]⟩:ByteArray).data.toList;rw[List.length_drop,G8]at h1;omega
  clear hk;by_cases h0:k<0
  ·rw[if_pos h0]
   go_enter Tryz.func162,Tryz.ntmps162
   go_wp2_with (first
    | (go_at_call 203;refine l.out.mono ?_;rintro e i ⟨rfl,rfl⟩)
    | (go_at_call 204;refine J.out.mono ?_;rintro e i ⟨rfl,rfl⟩)
    | (go_at_call 67;refine(Gx _ rfl _ _).mono ?_;rintro e i ⟨rfl,rfl⟩))
   go_ret2
   exact En.err _ 4 _
  ·rw[if_neg h0]
   obtain⟨k1,k2⟩:=a2;go_enter Tryz.func162,Tryz.ntmps162
   go_wp2_with (first
    | (go_at_call 203;refine l.out.mono ?_;rintro e i ⟨rfl,rfl⟩)
    | (go_at_call 204;refine J.out.mono ?_;rintro e i ⟨rfl,rfl⟩)
    | (go_at_call 67;refine(Gx _ rfl _ _).mono ?_;rintro e i ⟨rfl,rfl⟩))
   go_ret2
   exact En.Ir _ 0 _ _ (by omega)
 ·rw[if_neg o]
  have R:(a1==some 42)=false:=by simpa using o
  rw[R]at l;clear o R t j;go_enter Tryz.func162,Tryz.ntmps162
  go_wp2_with (first
   | (go_at_call 203;refine l.out.mono ?_;rintro e i ⟨rfl,rfl⟩)
   | (go_at_call 67;refine(Gx _ rfl _ _).mono ?_;rintro e i ⟨rfl,rfl⟩))
  go_ret2
  exact En.err _ 2 p
def E5(w:World)(r:Except Bi (Nat×Nat))(e:Ending)(w':World):Prop:=
 Below w.heap.size w w'/\match r with
 | .ok (k,n)=>e=.returned (.tuple #[.int .i64 k,.int .i64 n,.nilIface])
 | .error f=>∃(k:Int) (v:Value),e=.returned (.tuple #[.int .i64 k,.int .i64 0,v])/\Ji w' v f
theorem E5.KF(w:World)(e p:Nat)(k q:Int)(h:q=p):E5 w (.error (e,p)) (.returned (.tuple #[.int .i64 k,.int .i64 0,.iface 202 (.pointer (some ⟨w.heap.size,0,none⟩))])) (w.alloc (.cells #[.int .i64 e,.int .i64 q] 204)):=by subst h;exact⟨Ay _ _,k,_,rfl,.new _ _ _⟩
theorem E5.Ir(w:World)(k n:Nat)(q:Int)(h:q=n):E5 w (.ok (k,n)) (.returned (.tuple #[.int .i64 k,.int .i64 q,.nilIface])) w:=by subst h;exact⟨Below.refl _ _,rfl⟩
theorem PV(s:ByteArray)(p n:Nat):(s.extract p (p+n)).data.toList=(s.data.toList.drop p).take n:=by rw[Lib.extract_data,Nat.add_sub_cancel_left]
theorem UP(s:ByteArray)(hs:s.size<=8192)(p:Nat)(hp:p<s.size)(i:s[p]=37)(w:World):Calls Tryz.prog 163 #[.string s,.int .i64 p] w (E5 w (Ku p (s.data.toList.drop (p+1)))):=by
 have U:Lib.hasPrefix (s.extract p s.size).data.toList [37,37]=((s.data.toList.drop (p+1)).head?==some 37):=by rw[MX,Hk s p hp,i,Qw]
 have J:=Tryz.strings_HasPrefix (s.extract p s.size) ⟨#[37,37]⟩ w;rw[U]at J;have o:=Hd J;clear J U i;unfold Ku;by_cases i:(s.data.toList.drop (p+1)).head?=some 37
 ·rw[if_pos i]
  rw[show ((s.data.toList.drop (p+1)).head?==some 37)=true by rw[i];rfl]at o;clear i;go_enter Tryz.func163,Tryz.ntmps163
  go_wp2_with (go_at_call 203;refine o.out.mono ?_;rintro e l ⟨rfl,rfl⟩)
  go_ret3
  exact E5.Ir _ 6 2 _ rfl
 rw[if_neg i];rw[show ((s.data.toList.drop (p+1)).head?==some 37)=false by simpa using i]at o;clear i;have t:=Hd (P8 s (by omega) (p+1) (by omega) w);have hk:B7 Cy (s.data.toList.drop (p+1))<=s.size-(p+1):=by have:=LO Cy (s.data.toList.drop (p+1));simp only[List.length_drop,G8]at this;omega
 have I:=PV s (p+1) (B7 Cy (s.data.toList.drop (p+1)));generalize B7 Cy (s.data.toList.drop (p+1))=k at *;rw[<-I];have C:(p:Int)+1=((p+1:Nat):Int):=by omega
 rw[<-C]at t;have b1:(p:Int)+1+(k:Int)<=(s.size:Int):=by omega
 have b2:p+1+k<=s.size:=by omega
 generalize P:s.extract (p+1) (p+1+k)=x at *;have j:x.toList=x.data.toList:=Lib.toList_data x;cases T:(x.toList==[116,111,107,101,110]) with
 | true=>
  rw[if_pos (by rw[<-j];exact beq_iff_eq.1 T)];subst P;clear j I C;go_enter Tryz.func163,Tryz.ntmps163
  go_wp2_with (first
   | (go_at_call 203;refine o.out.mono ?_;rintro e l ⟨rfl,rfl⟩)
   | (go_at_call 161;refine t.out.mono ?_;rintro e l ⟨rfl,rfl⟩))
  go_ret3
  exact E5.Ir _ 7 _ _ (by omega)
 | false=>
  rw[if_neg (by rw[<-j];simpa using T)];cases R:(x.toList==[115,116,97,114,116]) with
  | true=>
   rw[if_pos (by rw[<-j];exact beq_iff_eq.1 R)];subst P;clear j I C;go_enter Tryz.func163,Tryz.ntmps163
   go_wp2_with (first
    | (go_at_call 203;refine o.out.mono ?_;rintro e l ⟨rfl,rfl⟩)
    | (go_at_call 161;refine t.out.mono ?_;rintro e l ⟨rfl,rfl⟩))
   go_ret3
   exact E5.Ir _ 8 _ _ (by omega)
  | false=>
   rw[if_neg (by rw[<-j];simpa using R)];subst P;clear j I C;go_enter Tryz.func163,Tryz.ntmps163
   go_wp2_with (first
    | (go_at_call 203;refine o.out.mono ?_;rintro e l ⟨rfl,rfl⟩)
    | (go_at_call 161;refine t.out.mono ?_;rintro e l ⟨rfl,rfl⟩)
    | (go_at_call 67;refine(Gx _ rfl _ _).mono ?_;rintro e l ⟨rfl,rfl⟩))
   go_ret3
   exact E5.KF _ 2 p _ _ rfl
theorem En.one{w:World}{r:Except Bi (Nat×Nat)}{e:Ending}{w':World}(h:En w r e w'):∃(n:Int) (v:Value),e=.returned (.tuple #[.int .i64 n,v]) /\
  ∀K:Nat,(∀k n,r=.ok (k,n)->k=K)->E5 w r (.returned (.tuple #[.int .i64 K,.int .i64 n,v])) w':=by
 obtain⟨i,h⟩:=h;cases r with
 | error f=>obtain⟨v,rfl,l⟩:=h;exact⟨0,v,rfl,fun K _=>⟨i,K,v,rfl,l⟩⟩
 | ok q=>obtain⟨k,n⟩:=q;exact⟨n,.nilIface,h,fun K j=>by obtain rfl:=j k n rfl;exact⟨i,rfl⟩⟩
theorem Nu(c:UInt8)(n:Nat)(i:n<256):((c.toNat:Int)==(n:Int))=(c==UInt8.ofNat n):=by rw[Bool.eq_iff_iff,beq_iff_eq,beq_iff_eq,<-UInt8.toNat_inj];rw[UInt8.toNat_ofNat',Nat.mod_eq_of_lt i];omega
theorem Z5{sz p:Nat}{r:List UInt8}:∀k n,JM sz p r=.ok (k,n)->k=2:=by
 intro k n h;unfold JM at h;split at h;· cases h
 split at h;· cases h
 split at h;· cases h
 injection h with h;exact(Prod.mk.inj h).1.symm
theorem bH{sz p:Nat}{r:List UInt8}:∀k n,Jz sz p r=.ok (k,n)->k=0:=by
 intro k n h;unfold Jz at h;split at h
 ·split at h
  ·cases h
  ·injection h with h;exact(Prod.mk.inj h).1.symm
 ·cases h
theorem Uq(s:ByteArray)(hs:s.size<=8192)(p:Nat)(hp:p<s.size)(w:World)(hm:Gk w):Calls Tryz.prog 117 #[.string s,.int .i64 p] w (E5 w (GL s.size p (s.data.toList.drop p))):=by
 have j:=Hd (S8 s[p] w);have a2:=Nu s[p] 47 (by decide);have T:=Nu s[p] 39 (by decide);have J:=Nu s[p] 37 (by decide);have hd:=Hk s p hp;unfold GL;rw[hd];simp only;rw[<-hd];clear hd;cases hw:FT s[p] with
 | true=>
  rw[hw]at j;rw[if_pos rfl];have a1:=Hd (cQ s (by omega) p (by omega) w);clear hw a2 T J;go_enter Tryz.func117,Tryz.ntmps117
  go_wp2_with (first
   | (go_at_call 160;refine j.out.mono ?_;rintro e i ⟨rfl,rfl⟩)
   | (go_at_call 161;refine a1.out.mono ?_;rintro e i ⟨rfl,rfl⟩))
  go_ret3
  exact E5.Ir _ 0 _ _ rfl
 | false=>
 rw[hw]at j;rw[if_neg (by decide)];clear hw;by_cases C:s[p]=47
 ·rw[if_pos C]
  have a7:((s[p].toNat:Int)==47)=true:=by rw[C];rfl
  have I:=Hd (gA s hs p hp C w hm);clear a2 T J C;go_enter Tryz.func117,Tryz.ntmps117
  go_wp2_with (first
   | (go_at_call 160;refine j.out.mono ?_;rintro e i ⟨rfl,rfl⟩)
   | (go_at_call 162;refine I.out.mono ?_;intro e i l;obtain⟨n,v,rfl,a0⟩:=l.one;clear l;have o:=Hd (a0 0 bH);clear a0))
  go_ret3
  exact o.out
 rw[if_neg C];have a7:((s[p].toNat:Int)==47)=false:=by rw[show ((s[p].toNat:Int)==47)=_ from a2];exact bN.2 C
 clear a2 C;by_cases P:s[p]=39
 ·rw[if_pos P]
  have a6:((s[p].toNat:Int)==39)=true:=by rw[P];rfl
  have I:=Hd (Ug s (by omega) p hp w);clear T J P;go_enter Tryz.func117,Tryz.ntmps117
  go_wp2_with (first
   | (go_at_call 160;refine j.out.mono ?_;rintro e i ⟨rfl,rfl⟩)
   | (go_at_call 131;refine I.out.mono ?_;intro e i l;obtain⟨n,v,rfl,a0⟩:=l.one;clear l;have o:=Hd (a0 2 Z5);clear a0))
  go_ret3
  exact o.out
 rw[if_neg P];have a6:((s[p].toNat:Int)==39)=false:=by rw[show ((s[p].toNat:Int)==39)=_ from T];exact bN.2 P
 clear T P;by_cases t:s[p]=37
 ·rw[if_pos t]
  have a5:((s[p].toNat:Int)==37)=true:=by rw[t];rfl
  have I:=Hd (UP s hs p hp t w);clear J t;generalize Ku p (s.data.toList.drop (p+1))=a8 at *;cases a8 with
  | ok q=>
   obtain⟨k,n⟩:=q;go_enter Tryz.func117,Tryz.ntmps117
   go_wp2_with (first
    | (go_at_call 160;refine j.out.mono ?_;rintro e i ⟨rfl,rfl⟩)
    | (go_at_call 163;refine I.out.mono ?_;intro e i l;obtain⟨hb,rfl⟩:=l;have o:=Hd hb;clear hb))
   go_ret3
   exact⟨o.out,rfl⟩
  | error f=>
   go_enter Tryz.func117,Tryz.ntmps117
   go_wp2_with (first
    | (go_at_call 160;refine j.out.mono ?_;rintro e i ⟨rfl,rfl⟩)
    | (go_at_call 163;refine I.out.mono ?_;intro e i l;obtain⟨hb,k,v,rfl,hv⟩:=l;have o:=Hd hb;have HV:=Hd hv;clear hb hv))
   go_ret3
   exact⟨o.out,_,_,rfl,HV.out⟩
 rw[if_neg t];have a5:((s[p].toNat:Int)==37)=false:=by rw[show ((s[p].toNat:Int)==37)=_ from J];exact bN.2 t
 clear J t;have R:=Hd (NQ s[p] w);by_cases U:BD s[p]=4
 ·rw[if_pos U]
  rw[U]at R;clear U;have a1:=Hd (P8 s (by omega) p (by omega) w);generalize B7 Cy (s.data.toList.drop p)=k at *;by_cases a3:24<k
  ·rw[if_pos a3]
   have a4:(24:Int)<(k:Int):=by omega
   clear a3;go_enter Tryz.func117,Tryz.ntmps117
   go_wp2_with (first
    | (go_at_call 160;refine j.out.mono ?_;rintro e i ⟨rfl,rfl⟩)
    | (go_at_call 164;refine R.out.mono ?_;rintro e i ⟨rfl,rfl⟩)
    | (go_at_call 161;refine a1.out.mono ?_;rintro e i ⟨rfl,rfl⟩)
    | (go_at_call 67;refine(Gx _ rfl _ _).mono ?_;rintro e i ⟨rfl,rfl⟩))
   go_ret3
   exact E5.KF _ 5 p _ _ rfl
  ·rw[if_neg a3]
   have a4:¬(24:Int)<(k:Int):=by omega
   clear a3;go_enter Tryz.func117,Tryz.ntmps117
   go_wp2_with (first
    | (go_at_call 160;refine j.out.mono ?_;rintro e i ⟨rfl,rfl⟩)
    | (go_at_call 164;refine R.out.mono ?_;rintro e i ⟨rfl,rfl⟩)
    | (go_at_call 161;refine a1.out.mono ?_;rintro e i ⟨rfl,rfl⟩))
   go_ret3
   exact E5.Ir _ 1 k _ rfl
 rw[if_neg U];have q4:((BD s[p]:Int)==4)=false:=bN.2 (by omega);clear U;have HS:=Hd (X5 s[p] w);generalize BD s[p]=cl at *;by_cases h0:I2 s[p]=0
 ·rw[if_neg (by simpa using h0)]
  rw[h0]at HS;clear h0;go_enter Tryz.func117,Tryz.ntmps117
  go_wp2_with (first
   | (go_at_call 160;refine j.out.mono ?_;rintro e i ⟨rfl,rfl⟩)
   | (go_at_call 164;refine R.out.mono ?_;rintro e i ⟨rfl,rfl⟩)
   | (go_at_call 166;refine HS.out.mono ?_;rintro e i ⟨rfl,rfl⟩)
   | (go_at_call 67;refine(Gx _ rfl _ _).mono ?_;rintro e i ⟨rfl,rfl⟩))
  go_ret3
  exact E5.KF _ 2 p _ _ rfl
 ·rw[if_pos h0]
  generalize I2 s[p]=sg at *;have q0:((sg:Int) != 0)=true:=bne_iff_ne.2 (by omega);clear h0;go_enter Tryz.func117,Tryz.ntmps117
  go_wp2_with (first
   | (go_at_call 160;refine j.out.mono ?_;rintro e i ⟨rfl,rfl⟩)
   | (go_at_call 164;refine R.out.mono ?_;rintro e i ⟨rfl,rfl⟩)
   | (go_at_call 166;refine HS.out.mono ?_;rintro e i ⟨rfl,rfl⟩))
  go_ret3
  exact E5.Ir _ sg 1 _ rfl
theorem S3{sz p:Nat}{l:List UInt8}{k n:Nat}(i:GL sz p l=.ok (k,n))(a0:sz=p+l.length):n<=l.length:=by
 unfold GL at i;cases l with
 | nil=>injection i with i;obtain⟨rfl,rfl⟩:=Prod.mk.inj i;simp
 | cons c r=>
  simp only at i;split at i
  ·injection i with i
   obtain⟨rfl,rfl⟩:=Prod.mk.inj i;exact LO _ _
  split at i
  ·unfold Jz at i
   split at i
   ·rename_i P
    split at i
    ·cases i
    ·rename_i h0
     injection i with i;obtain⟨rfl,rfl⟩:=Prod.mk.inj i;cases r with
     | nil=>cases P
     | cons d t=>
      simp only[List.drop_succ_cons,List.drop_zero]at h0 ⊢;have T:(Lib.index t [42,47]).toNat+2<=t.length:=by
       rcases Lib.index_spec t [42,47] with⟨C,_⟩|⟨a1,C,_,j,_⟩
       ·omega
       ·rcases Lib.occAt_room j with o|o
        ·rw[C];simpa using o
        ·cases o
      simp;omega
   ·cases i
  split at i
  ·unfold JM at i
   split at i;· cases i
   split at i;· cases i
   rename_i j;split at i;· cases i
   injection i with i;obtain⟨rfl,rfl⟩:=Prod.mk.inj i;have I:r[Bg r]?=some 39:=by
    by_cases h:r[Bg r]?=some 39
    ·exact h
    ·exact absurd (.inl h) j
   have R:Bg r<r.length:=(sG.1 I).1;simp;omega
  split at i
  ·have U:=LO Cy r
   unfold Ku at i;split at i
   ·rename_i J
    injection i with i;obtain⟨rfl,rfl⟩:=Prod.mk.inj i;cases r with
    | nil=>cases J
    | cons d t=>simp
   split at i
   ·injection i with i;obtain⟨rfl,rfl⟩:=Prod.mk.inj i;simp;omega
   split at i
   ·injection i with i;obtain⟨rfl,rfl⟩:=Prod.mk.inj i;simp;omega
   ·cases i
  split at i
  ·split at i
   ·cases i
   injection i with i;obtain⟨rfl,rfl⟩:=Prod.mk.inj i;exact LO _ _
  split at i
  ·injection i with i
   obtain⟨rfl,rfl⟩:=Prod.mk.inj i;simp
  ·cases i
def Tk.cells(t:Tk):List Value:=[.int .i64 t.k,.string (str t.s),.int .i64 t.p]
theorem Tk.MI(t:Tk):t.cells.length=3:=rfl
theorem KX:El Tryz.prog 130 201 3 32:=El.of (z:=.agg #[.int .i64 0,.string ⟨#[]⟩,.int .i64 0]) Tryz.underlying130 (by kernel_rfl) rfl (by decide)
theorem Le(y:World)(a c:Int)(b:ByteArray):Bc (y.alloc (.cells #[.int .i64 a,.string b,.int .i64 c] 201)) (.slice (some ⟨y.heap.size,0,none⟩) 1 1) 1 3 [.int .i64 a,.string b,.int .i64 c]:=
 Bc.An (c:=1) (Ah.new y 201 #[.int .i64 a,.string b,.int .i64 c]) rfl (by simp[Value.oneCell'])
theorem Td{B:Nat}{i w2:World}{o:Obj}{T:List TypeId}(h:AI B T (i.alloc o) w2)(j:B<=i.heap.size):Below B i w2:=
 ((Ay i o).mono j).trans (h.below (by simp;omega))
def SE(i:List Tk):Except Bi (List Tk)->Except Bi (List Tk)
 | .ok j=>.ok (i++j)
 | .error e=>.error e
def GU(s:ByteArray)(p:Nat)(i:List Tk):Prop:=∃f,s.size-p<f/\E4 s.size (s.size+1) 0 s.data.toList=SE i (E4 s.size f p (s.data.toList.drop p))
theorem GU.start(s:ByteArray):GU s 0 []:=⟨s.size+1,by omega,by rw[List.drop_zero];generalize E4 s.size (s.size+1) 0 s.data.toList=r;cases r<;>rfl⟩
theorem GU.last{s:ByteArray}{p:Nat}{i:List Tk}(h:GU s p i)(j:p=s.size):E4 s.size (s.size+1) 0 s.data.toList=.ok (i++[⟨0,[],s.size⟩]):=by
 obtain⟨f,l,h⟩:=h;subst j;rw[h,MA];cases f with
 | zero=>omega
 | succ f=>rfl
theorem GU.step{s:ByteArray}{p:Nat}{o:List Tk}(h:GU s p o)(T:p<s.size) :
  match GL s.size p (s.data.toList.drop p) with
  | .error e=>E4 s.size (s.size+1) 0 s.data.toList=.error e
  | .ok (k,n)=>0<n/\p+n<=s.size/\GU s (p+n) (if k=0 then o else o++[⟨k,(s.data.toList.drop p).take n,p⟩]):=by
 obtain⟨f,R,h⟩:=h;have t:(s.data.toList.drop p).length=s.size-p:=by rw[List.length_drop,G8]
 cases f with
 | zero=>omega
 | succ f=>
  have C:(s.data.toList.drop p).isEmpty=false:=by
   cases J:s.data.toList.drop p with
   | nil=>rw[J]at t;simp at t;omega
   | cons a l=>rfl
  cases j:GL s.size p (s.data.toList.drop p) with
  | error e=>simp only;rw[h];simp only[E4,C,j];rfl
  | ok q=>
   obtain⟨k,n⟩:=q;simp only;have I:=(Ol j).2 (by omega);have P:=S3 j (by omega);refine⟨I,by omega,f,by omega,?_⟩;rw[h];simp only[E4,C,j];rw[List.drop_drop];cases E4 s.size f (p+n) (s.data.toList.drop (p+n)) with
   | error e=>rfl
   | ok U=>
    simp only[SE];by_cases i:k=0
    ·rw[if_pos i,if_pos i];rfl
    ·rw[if_neg i,if_neg i];simp
def XQ(w:World)(r:Except Bi (List Tk))(e:Ending)(w':World):Prop:=
 Below w.heap.size w w'/\match r with
 | .ok i=>∃v,e=.returned (.tuple #[v,.nilIface])/\w'.ownsRow w.heap.size 201 3 v i.length (i.flatMap Tk.cells)
 | .error f=>∃v,e=.returned (.tuple #[.slice none 0 0,v])/\Ji w' v f
theorem VG(s:ByteArray)(hs:s.size<=4611686018427387904)(w:World)(hm:Gk w):Calls Tryz.prog 65 #[.string s] w (XQ w (tokens s.data.toList)):=by
 unfold tokens;rw[G8];by_cases T:8192<s.size
 ·rw[if_pos T]
  have q1:(8192:Int)<(s.size:Int):=by omega
  clear T;go_enter Tryz.func65,Tryz.ntmps65
  go_wp2;go_step3
  go_wp2_with (go_at_call 67;refine(Gx _ rfl _ _).mono ?_;rintro e w' ⟨rfl,rfl⟩)
  rw[Exit.noGoto_ret]
  go_ret2
  exact⟨Ay _ _,_,rfl,Ji.new w 5 0⟩
 rw[if_neg T];have q1:¬(8192:Int)<(s.size:Int):=by omega
 have aa:s.size<=8192:=by omega
 have HM:=Hd hm;clear T hm;go_enter Tryz.func65,Tryz.ntmps65
 go_wp2;go_step3
 go_wp2;go_step3
 go_wp2;go_loopw [4,5] (fun v a3 wr=>∃(p:Nat) (i:List Tk),p<=s.size/\a3=.int .i64 p/\i.length<=p/\(∃A c,v=.slice A i.length c)/\Hid (wr.ownsRow w.heap.size 201 3 v i.length (i.flatMap Tk.cells))/\Hid (Below w.heap.size w wr)/\Hid (GU s p i)) (fun _ a3 _=>s.size-(intOf a3).toNat)
 case atStart=>exact⟨0,[],AP _,rfl,AG _,⟨none,0,rfl⟩,Hd (World.ownsRow_nil _ _ _ _),Hd (Below.refl _ _),Hd (GU.start s)⟩
 case round=>
  obtain⟨p,i,hp,rfl,ad,⟨A,c,rfl⟩,HO,j,HT⟩:=hrel;by_cases a4:p<s.size
  ·have a9:¬(s.size:Int)<=(p:Int):=by omega
   have C:=Hd (Uq s aa p a4 wr (HM.out.later j.out));have I:=HT.out.step a4;cases U:GL s.size p (s.data.toList.drop p) with
   | error f=>
    rw[U]at C I;have HS:=Hd I;clear I U;go_wp2_with (go_at_call 117;refine C.out.mono ?_;intro e w1 J;obtain⟨l,k,v,rfl,hv⟩:=J;obtain⟨b,rfl,t⟩:=hv;have o:=Hd l;have HV:=Hd t;clear l t)
    go_ret2
    rw[HS.out];exact⟨j.out.trans (o.out.mono j.out.size),_,rfl,_,rfl,HV.out⟩
   | ok q=>
    obtain⟨k,n⟩:=q;rw[U]at C I;obtain⟨ae,af,a5⟩:=I;have HN:=Hd a5;have b1:(p:Int)+(n:Int)<=(s.size:Int):=by omega
    have a6:str ((s.data.toList.drop p).take n)=s.extract p (p+n):=by rw[<-PV,Xn]
    have a8:=Hd a6;clear U a5 a6;by_cases t:k=0
    ·subst t
     have a1:Hid (GU s (p+n) i):=Hd HN.out;go_wp2_with (go_at_call 117;refine C.out.mono ?_;intro e w1 J;obtain⟨l,rfl⟩:=J;have o:=Hd l;clear l)
     go_roundw
     case rel=>exact⟨p+n,i,by omega,by go_num,by omega,⟨_,_,rfl⟩,Hd ((AI.AH (B:=0) (T:=[]) o.out).own HO.out (.inr (by simp))),Hd (j.out.trans (o.out.mono j.out.size)),a1⟩
     case measure=>simp[intOf];omega
    ·have a1:Hid (GU s (p+n) (i++[⟨k,(s.data.toList.drop p).take n,p⟩])):=Hd (by have:=HN.out;rw[if_neg t]at this;exact this)
     have q0:((k:Int) != 0)=true:=bne_iff_ne.2 (by omega);clear t;go_wp2_with (first
      | (go_at_call 117;refine C.out.mono ?_;intro e w1 J;obtain⟨l,rfl⟩:=J;have o:=Hd l;have a7:=Hd ((AI.AH (B:=0) (T:=[]) l).own HO.out (.inr (by simp)));have ab:=j.out.size;have ag:=l.size;clear l)
      | (at_builtin;refine DA KX (.tmp 29) (.tmp 39) rfl rfl (base:=w.heap.size) (n:=i.length) (m:=1) (N:=i.length+1) (xs:=i.flatMap Tk.cells) (news:=[.int .i64 k,.string (s.extract p (p+n)),.int .i64 p]) rfl rfl (a7.out.alloc _) (Le w1 _ _ _) rfl (by unfold maxLen;omega) (by omega) (by simp;omega) ?_;intro A2 c2 w2 P R r3;have a2:=Hd P;have a0:=Hd (Td R (by omega));clear P R r3))
     go_roundw
     case rel=>refine⟨p+n,i++[⟨k,(s.data.toList.drop p).take n,p⟩],by omega,by go_num,by simp;omega,⟨A2,c2,by simp⟩,Hd ?_,Hd ((j.out.trans (o.out.mono j.out.size)).trans a0.out),a1⟩;have:=a2.out;rw[<-a8.out]at this;simpa [Tk.cells] using this
     case measure=>simp[intOf];omega
  ·have a9:(s.size:Int)<=(p:Int):=by omega
   obtain rfl:p=s.size:=by omega
   have HL:=Hd (HT.out.last rfl);have ab:=j.out.size;go_wp2_with (at_builtin;refine DA KX (.tmp 44) (.tmp 48) rfl rfl (base:=w.heap.size) (n:=i.length) (m:=1) (N:=i.length+1) (xs:=i.flatMap Tk.cells) (news:=[.int .i64 0,.string ⟨#[]⟩,.int .i64 s.size]) rfl rfl (HO.out.alloc _) (Le wr _ _ _) rfl (by unfold maxLen;omega) (by omega) (by simp;omega) ?_;intro A2 c2 w2 P R r3;have a2:=Hd P;have a0:=Hd (Td R (by omega));clear P R r3)
   rw[Exit.noGoto_ret]
   go_ret2
   rw[HL.out];refine⟨j.out.trans a0.out,_,rfl,?_⟩;have:=a2.out;simpa [Tk.cells,str] using this
def BS(f:Bi)(e:Ending):Prop:=e=.panicked [{v:=.iface 134 (.agg #[.int .i64 f.1,.int .i64 f.2]),recovered:=false}]
theorem Eg(k p:Int)(w:World):Calls Tryz.prog 173 #[.int .i64 k,.int .i64 p] w fun e w'=>e=.panicked [{v:=.iface 134 (.agg #[.int .i64 k,.int .i64 p]),recovered:=false}]/\w=w':=by
 go_enter Tryz.func173,Tryz.ntmps173
 go_wp2;exact⟨rfl,rfl,rfl⟩
theorem BS.of{k p:Int}{f:Bi}(i:k=f.1)(j:p=f.2):BS f (.panicked [{v:=.iface 134 (.agg #[.int .i64 k,.int .i64 p]),recovered:=false}]):=by subst i;subst j;rfl
structure KM(w:World)(b off c:Nat)(cs:Array Value)(l:List Tk):Prop where
 An:Ah w b 201 cs
 cap:l.length<=c/\c<=maxLen
 cell:∀k t,l[k]?=some t->cs[off+k*3]?=some (.int .i64 t.k)/\cs[off+k*3+1]?=some (.string (str t.s))/\cs[off+k*3+2]?=some (.int .i64 t.p)
def EZ(w:World)(v:Value)(l:List Tk):Prop:=∃b off c i,v=.slice (some ⟨b,off,none⟩) l.length c/\KM w b off c i l
theorem EZ.Aw{X:Nat->Prop}{w w':World}{v:Value}{l:List Tk}(h:EZ w v l)(j:Aj X w w')(o:∀g,v.ownBlock=some g->¬X g):EZ w' v l:=by obtain⟨b,off,c,i,rfl,h⟩:=h;exact⟨b,off,c,i,rfl,j.An h.An (o b rfl),h.cap,h.cell⟩
theorem EZ.lt{w:World}{v:Value}{l:List Tk}(h:EZ w v l):∀g,v.ownBlock=some g->g<w.heap.size:=by
 obtain⟨b,off,c,j,rfl,h⟩:=h;intro g i;cases i
 exact h.An.lt
theorem KM.tail{w:World}{b off c:Nat}{cs:Array Value}{t:Tk}{r:List Tk}(h:KM w b off c cs (t::r)):KM w b (off+3) (c-1) cs r where
 An:=h.An
 cap:=by have:=h.cap;simp at this;omega
 cell k u i:=by have:=h.cell (k+1) u i;rw[show off+3+k*3=off+(k+1)*3 by omega];exact this
theorem KM.head{w:World}{b off c:Nat}{cs:Array Value}{t:Tk}{r:List Tk}(h:KM w b off c cs (t::r)) :
  w.cell? ⟨b,off,none⟩=some (.int .i64 t.k)/\w.cell? ⟨b,off+1,none⟩=some (.string (str t.s))/\w.cell? ⟨b,off+2,none⟩=some (.int .i64 t.p):=by
 have:=h.cell 0 t rfl;rw[h.An.cell,h.An.cell,h.An.cell];simpa using this
theorem J2{w:World}{rb:Nat}{j:Value}{t:Tk}{r:List Tk}(h0:w.cell? ⟨rb,0,none⟩=some j)(o:EZ w j (t::r))(k:Nat):Calls Tryz.prog 118 #[.pointer (some ⟨rb,0,none⟩),.int .i64 k] w fun e w'=>e=.returned (.bool (t.k==k))/\w'=w:=by
 obtain⟨b,off,c,C,rfl,h⟩:=o;obtain⟨p,_,_⟩:=h.head;have i:((t.k:Int)==(k:Int))=(t.k==k):=by rw[Bool.eq_iff_iff,beq_iff_eq,beq_iff_eq];omega
 have l:=Hd i;have I:(0:Int)<((t::r).length:Int):=by rw[List.length_cons];omega
 generalize (t::r).length=n at *;clear h i;go_enter Tryz.func118,Tryz.ntmps118
 go_wp2;go_ret;exact⟨BB l.out,rfl⟩
theorem Qu{w:World}{rb:Nat}{o:Value}{t:Tk}{r:List Tk}(h0:w.cell? ⟨rb,0,none⟩=some o)(l:EZ w o (t::r)):Calls Tryz.prog 167 #[.pointer (some ⟨rb,0,none⟩)] w fun e w'=>e=.returned (.bool (Ba t))/\w'=w:=by
 have i:=Hd (J2 h0 l 1);have p:=Hd (J2 h0 l 2);unfold Ba;clear h0 l;cases j:(t.k==1) with
 | true=>
  rw[j]at i;clear j;go_enter Tryz.func167,Tryz.ntmps167
  go_wp2_with (go_at_call 118;refine i.out.mono ?_;rintro e w' ⟨rfl,rfl⟩)
  go_ret;exact⟨rfl,rfl⟩
 | false=>
  rw[j]at i;clear j;go_enter Tryz.func167,Tryz.ntmps167
  go_wp2_with fail
  refine i.out.mono ?_;rintro e w' ⟨rfl,rfl⟩;go_wp2_with fail
  refine p.out.mono ?_;rintro e w' ⟨rfl,rfl⟩;go_wp2;go_ret;exact⟨by simp,rfl⟩
theorem PO{w:World}{rb:Nat}{p:Value}{t:Tk}{r:List Tk}(h0:w.cell? ⟨rb,0,none⟩=some p)(o:EZ w p (t::r)):Calls Tryz.prog 168 #[.pointer (some ⟨rb,0,none⟩)] w fun e w'=>BS (DG (t::r)) e/\w'=w:=by
 have j:=Hd (J2 h0 o 0);obtain⟨b,off,c,C,rfl,h⟩:=o;obtain⟨_,_,c2⟩:=h.head;have I:(0:Int)<((t::r).length:Int):=by rw[List.length_cons];omega
 have l:DG (t::r)=(if t.k=0 then 4 else 3,t.p):=rfl;rw[l];clear h l;generalize (t::r).length=n at *;by_cases i:t.k=0
 ·rw[if_pos i]
  rw[show (t.k==0)=true by simp[i]]at j;clear i;go_enter Tryz.func168,Tryz.ntmps168
  go_wp2_with (first
   | (go_at_call 118;refine j.out.mono ?_;rintro e w' ⟨rfl,rfl⟩)
   | (go_at_call 173;refine(Eg _ _ _).mono ?_;rintro e w' ⟨rfl,rfl⟩))
  exact⟨rfl,BS.of rfl rfl,rfl⟩
 ·rw[if_neg i]
  rw[show (t.k==0)=false by simp[i]]at j;clear i;go_enter Tryz.func168,Tryz.ntmps168
  go_wp2_with (first
   | (go_at_call 118;refine j.out.mono ?_;rintro e w' ⟨rfl,rfl⟩)
   | (go_at_call 173;refine(Eg _ _ _).mono ?_;rintro e w' ⟨rfl,rfl⟩))
  exact⟨rfl,BS.of rfl rfl,rfl⟩
def Tk.val(t:Tk):Value:=.agg #[.int .i64 t.k,.string (str t.s),.int .i64 t.p]
def LG(w:World)(rb:Nat)(j l o p C:Value)(I:Value)(t:Tk)(r:List Tk)(e:Ending)(w':World):Prop:=
 e=.returned t.val/\Aj (·=rb) w w'/\∃i,Ah w' rb 140 #[i,j,l,o,p,C]/\EZ w' i r/\i.ownBlock=I.ownBlock
theorem NT{w:World}{rb:Nat}{o p C I J j:Value}{t:Tk}{r:List Tk}(i:Ah w rb 140 #[j,o,p,C,I,J])(hl:EZ w j (t::r))(T:r≠[])(R:j.ownBlock≠some rb):Calls Tryz.prog 120 #[.pointer (some ⟨rb,0,none⟩)] w (LG w rb o p C I J j t r):=by
 obtain⟨b,off,c,cs,rfl,h⟩:=hl;obtain⟨c0,c1,c2⟩:=h.head;have a2:b≠rb:=fun e=>R (by rw[e];rfl)
 have a1:=i.cell 0;have a5:=i.frozen 0;simp at a1;have a6:=i.lt;have a7:=h.An.lt;have hT:=Hd h;have P:=h.cap;have a8:0<r.length:=List.length_pos_iff.2 T;simp only[List.length_cons]at P;have U:=Hd i;clear h i T R;obtain⟨a4,a3⟩:=P;unfold maxLen at a3;rw[show (t::r).length=r.length+1 from rfl];have q1:¬c=1:=by omega
 have q2:(0:Int)<(r.length:Int)+1:=by omega
 have q3:(1:Int)<=(r.length:Int)+1:=by omega
 have q4:(r.length:Int)+1<=(c:Int):=by omega
 go_enter Tryz.func120,Tryz.ntmps120
 go_wp2;refine bodyPost_ret (v:=t.val) (by simp[results,Tryz.results120,go_sem,Tk.val]) rfl ⟨rfl,?_,?_⟩
 ·exact(((Aj.refl (·=rb) w).set (p:=⟨rb,0,none⟩) (.inr rfl) _).alloc _).alloc _
 ·have a0:=(((U.out.Bn 0 (.slice (some ⟨b,off+3,none⟩) r.length (c-1))).alloc (.cells #[.int .i64 t.k,.string (str t.s),.int .i64 t.p] 201)).alloc (.cells #[.int .i64 t.k,.string (str t.s),.int .i64 t.p] 201))
  refine⟨_,by simpa using a0,⟨b,off+3,c-1,cs,rfl,?_⟩,rfl⟩;have l:=hT.out.tail;exact⟨((l.An.BE (p:=⟨rb,0,none⟩) (by simpa using a2) _).alloc _).alloc _,l.cap,l.cell⟩
theorem Ze{w:World}{rb:Nat}{p:Value}{t:Tk}{r:List Tk}(h0:w.cell? ⟨rb,0,none⟩=some p)(I:EZ w p (t::r))(k:Nat)(C:(t.k==k)=false):Calls Tryz.prog 169 #[.pointer (some ⟨rb,0,none⟩),.int .i64 k] w fun e w'=>BS (DG (t::r)) e/\Below w.heap.size w w':=by
 have l:=Ay w (.cells #[.int .i64 0,.string ⟨#[]⟩,.int .i64 0] 201);have i:=(l.cell (p:=⟨rb,0,none⟩) (World.block_lt_of_cell? w _ h0)).trans h0;have o:EZ (w.alloc (.cells #[.int .i64 0,.string ⟨#[]⟩,.int .i64 0] 201)) p (t::r):=I.Aw (X:=fun _=>False) (.AH l) (fun _ _ h=>h);have j:=J2 i o k;rw[C]at j;have J:=Hd j;have P:=Hd (PO i o);clear h0 I i o j C l;go_enter Tryz.func169,Tryz.ntmps169
 go_wp2_with (first
  | (go_at_call 118;refine J.out.mono ?_;rintro e w' ⟨rfl,rfl⟩)
  | (go_at_call 168;refine P.out.mono ?_;intro e w' R;obtain⟨rfl,rfl⟩:=R))
 exact⟨rfl,BS.of rfl rfl,Ay _ _⟩
theorem bE{w:World}{rb:Nat}{U f2 f3 f4 f5 o:Value}{t:Tk}{r:List Tk}(I:Ah w rb 140 #[o,U,f2,f3,f4,f5])(l:EZ w o (t::r))(hr:r≠[])(j:o.ownBlock≠some rb)(k:Nat)(hk:(t.k==k)=true):Calls Tryz.prog 169 #[.pointer (some ⟨rb,0,none⟩),.int .i64 k] w (LG w rb U f2 f3 f4 f5 o t r):=by
 have C:=Ay w (.cells #[.int .i64 0,.string ⟨#[]⟩,.int .i64 0] 201);have J:=I.alloc (.cells #[.int .i64 0,.string ⟨#[]⟩,.int .i64 0] 201);have T:EZ (w.alloc (.cells #[.int .i64 0,.string ⟨#[]⟩,.int .i64 0] 201)) o (t::r):=l.Aw (X:=fun _=>False) (.AH C) (fun _ _ h=>h);have p:=J2 (J.cell 0) T k;rw[hk]at p;have H1:=Hd p;have H2:=Hd (NT J T hr j);have a2:=I.lt;have HA:=Hd C;have a1:=Hd l.lt;clear I l hr j J T p hk C;go_enter Tryz.func169,Tryz.ntmps169
 go_wp2_with (first
  | (go_at_call 118;refine H1.out.mono ?_;rintro e w' ⟨rfl,rfl⟩)
  | (go_at_call 120;refine H2.out.mono ?_;intro e w1 hx;obtain⟨rfl,R,a0⟩:=hx;have HC:=Hd R;have HX:=Hd a0;have i:=(R.block w.heap.size (by simp) (by omega)).trans (Ah.new w 201 #[.int .i64 0,.string ⟨#[]⟩,.int .i64 0]);have HK:=Hd i;have j0:=Ah.cell i 0;have j1:=Ah.cell i 1;have j2:=Ah.cell i 2;have i0:=Ah.frozen i 0;have i1:=Ah.frozen i 1;have i2:=Ah.frozen i 2;clear R a0 i;simp at j0 j1 j2;unfold Tk.val))
 refine bodyPost_ret (v:=t.val) (by simp[results,Tryz.results169,go_sem,Tk.val,j0,j1,j2]) rfl ⟨rfl,?_,?_⟩
 ·exact(((((Aj.refl (·=rb) w).alloc _).next HC.out).set (p:=⟨w.heap.size,0,none⟩) (.inl (AG _)) _).set (p:=⟨w.heap.size,1,none⟩) (.inl (AG _)) _).set (p:=⟨w.heap.size,2,none⟩) (.inl (AG _)) _
 ·obtain⟨a3,hb,l,ho⟩:=HX.out
  have j:rb≠w.heap.size:=by omega
  obtain⟨b,off,c,cs,rfl,h⟩:=l;have P:b≠w.heap.size:=by have:=a1.out b (ho▸rfl);omega
  refine⟨_,((hb.BE (p:=⟨w.heap.size,0,none⟩) j _).BE (p:=⟨w.heap.size,1,none⟩) j _).BE (p:=⟨w.heap.size,2,none⟩) j _,⟨b,off,c,cs,rfl,?_⟩,ho⟩;exact⟨((h.An.BE (p:=⟨w.heap.size,0,none⟩) P _).BE (p:=⟨w.heap.size,1,none⟩) P _).BE (p:=⟨w.heap.size,2,none⟩) P _,h.cap,h.cell⟩
def Hx:List Tk->Prop
 | []=>False
 | [t]=>t.k=0
 | t::r=>t.k≠0/\Hx r
theorem Hx.tail{t:Tk}{r:List Tk}(h:Hx (t::r))(i:t.k≠0):Hx r/\r≠[]:=by
 cases r with
 | nil=>exact absurd h i
 | cons u r=>exact⟨h.2,by simp⟩
theorem Hx.cons{l:List Tk}(h:Hx l):∃t r,l=t::r:=by
 cases l with
 | nil=>exact h.elim
 | cons t r=>exact⟨t,r,rfl⟩
theorem NN{t:Tk}(h:Ba t=true):t.k≠0:=by intro h0;unfold Ba at h;rw[h0]at h;cases h
theorem Aj.keeps{X:Nat->Prop}{T:List TypeId}{w a b:World}(h:Aj X w a)(k:AI w.heap.size T a b):Aj X w b:=
 ⟨k.os.trans h.os,k.tape.trans h.tape,k.output.trans h.output,AX h.size k.size,fun i j l=>(k.block i (A0 j h.size) (.inl j)).trans (h.block i j l)⟩
structure Cj(w:World)(rb:Nat)(f1 f2 f3 f4 f5:Value)(tb:Option Nat)(l:List Tk):Prop where
 ex:∃lv,Ah w rb 140 #[lv,f1,f2,f3,f4,f5]/\EZ w lv l/\lv.ownBlock=tb
 ended:Hx l
 ne:tb≠some rb
theorem LG.AW{w w':World}{rb:Nat}{j l o p C i:Value}{t:Tk}{r:List Tk}{e:Ending}(h:LG w rb j l o p C i t r e w')(hr:Hx r)(U:i.ownBlock≠some rb) :
  e=.returned t.val/\Aj (·=rb) w w'/\Cj w' rb j l o p C i.ownBlock r:=by
 obtain⟨I,J,a0,P,R,T⟩:=h;exact⟨I,J,⟨a0,P,R,T⟩,hr,U⟩
theorem Cj.Aw{X:Nat->Prop}{w w':World}{rb:Nat}{i j o p t:Value}{tb:Option Nat}{l:List Tk}(h:Cj w rb i j o p t tb l)(C:Aj X w w')(I:¬X rb)(J:∀g,tb=some g->¬X g):Cj w' rb i j o p t tb l:=by obtain⟨T,P,R,rfl⟩:=h.ex;exact⟨⟨T,C.An P I,R.Aw C J,rfl⟩,h.ended,h.ne⟩
theorem Cj.lt{w:World}{rb:Nat}{i j o p t:Value}{tb:Option Nat}{l:List Tk}(h:Cj w rb i j o p t tb l):rb<w.heap.size/\∀g,tb=some g->g<w.heap.size:=by obtain⟨J,C,I,rfl⟩:=h.ex;exact⟨C.lt,I.lt⟩
structure Ij(w:World)(rb:Nat)(f1 f2 f3 f4 f5:Value)(tb:Option Nat)(l:List Tk)(sb:Nat)(p:Nat)(sv:Value)(a rest:List Tk)(wr:World):Prop where
 AW:Cj wr rb f1 f2 f3 f4 f5 tb rest
 An:Ah wr sb 211 #[sv,.int .i64 p]
 own:wr.ownsRow w.heap.size 201 3 sv a.length (a.flatMap Tk.cells)
 Aw:Aj (·=rb) w wr
 tw:l.takeWhile Ba=a++rest.takeWhile Ba
 dw:l.dropWhile Ba=rest.dropWhile Ba
theorem ZF{w wr w1 w2:World}{rb:Nat}{I J P R T:Value}{tb:Option Nat}{l:List Tk}{i p c2:Nat}{sv:Value}{a r:List Tk}{t:Tk}{C:Option Addr}(a9:rb<w.heap.size)(a7:∀g,tb=some g->g<w.heap.size)(a6:w.heap.size<=i)
  (h:Ij w rb I J P R T tb l i p sv a (t::r) wr) (ht:Ba t=true) (a2:Aj (·=rb) wr w1) (a0:Cj w1 rb I J P R T tb r)
  (ho:w2.ownsRow w.heap.size 201 3 (.slice C (a.length+1) c2) (a.length+1) (a.flatMap Tk.cells++t.cells)) (o:AI w.heap.size [201] (w1.alloc (.cells #[.int .i64 t.k,.string (str t.s),.int .i64 t.p] 201)) w2) :
  Ij w rb I J P R T tb l i p (.slice C (a.length+1) c2) (a++[t]) r (w2.setCell ⟨i,0,none⟩ (.slice C (a.length+1) c2)):=by
 have a3:rb≠i:=by omega
 have a1:Ah w2 i 211 #[sv,.int .i64 p]:=o.An ((a2.An h.An (Ne.symm a3)).alloc _) (.inr (by decide));have a5:Aj (·=rb) w w2:=((h.Aw.next a2).alloc _).keeps o;refine⟨⟨?_,a0.ended,a0.ne⟩,by simpa using a1.Bn 0 _,?_,a5.set (p:=⟨i,0,none⟩) (.inl a6) _,?_,?_⟩
 ·obtain⟨lv,k1,k2,k3⟩:=a0.ex
  refine⟨lv,(o.An (k1.alloc _) (.inr (by decide))).BE (by simpa using a3) _,?_,k3⟩;obtain⟨b,off,c,cs,rfl,U⟩:=k2;have hb:=a7 b (by rw[<-k3];rfl);exact⟨b,off,c,cs,rfl,(o.An (U.An.alloc _) (.inl hb)).BE (by simp;omega) _,U.cap,U.cell⟩
 ·have:(a++[t]).length=a.length+1:=by simp
  rw[this,List.flatMap_append];refine EB (by simpa using ho) ?_ _;intro j;rcases Bv ho with⟨e,_⟩|⟨b,c,e,_,_,_,_,a8,a4⟩
  ·rw[e]at j;cases j
  ·rw[e]at j
   cases j
   exact Ah.A8 (t:=201) a4 a1 (by decide) rfl
 ·rw[h.tw,List.takeWhile_cons,if_pos ht];simp
 ·rw[h.dw,List.dropWhile_cons,if_pos ht]
theorem Bw{w:World}{base:Nat}{e:TypeId}{size n:Nat}{v:Value}{xs:List Value}(h:w.ownsRow base e size v n xs):∃A c,v=.slice A n c:=by
 rcases Bv h with⟨rfl,rfl⟩|⟨b,c,rfl,_⟩
 ·exact⟨none,0,rfl⟩
 ·exact⟨_,c,rfl⟩
theorem Cu{w:World}{base x:Nat}{e:TypeId}{size n:Nat}{v:Value}{xs:List Value}(h:w.ownsRow base e size v n xs)(o:x<base):∀g,v.ownBlock=some g->¬g=x:=by
 rcases Bv h with⟨rfl,_⟩|⟨b,c,rfl,j,_⟩
 ·intro g i;cases i
 ·intro g i l
  cases i
  subst l;exact absurd o (Nat.not_lt.2 j)
theorem Ij.len{w wr:World}{rb:Nat}{i j o t C:Value}{tb:Option Nat}{l:List Tk}{R p:Nat}{T:Value}{a rest:List Tk}(h:Ij w rb i j o t C tb l R p T a rest wr):a.length+rest.length=l.length:=by have I:=congrArg List.length h.tw;have U:=congrArg List.length h.dw;have J:=congrArg List.length (List.takeWhile_append_dropWhile (p:=Ba) (l:=l));have P:=congrArg List.length (List.takeWhile_append_dropWhile (p:=Ba) (l:=rest));rw[B5]at I J P;omega
theorem Nr(l:List Tk):(BR l).l=l.takeWhile Ba:=by cases l<;>rfl
theorem Ij.drew{w wr:World}{rb:Nat}{j o t C I:Value}{tb:Option Nat}{l:List Tk}{J p:Nat}{P:Value}{a rest:List Tk}(h:Ij w rb j o t C I tb l J p P a rest wr):Ij w rb j o t C I tb l J p P a rest wr.drew:=by have i:Aj (fun _=>False) wr wr.drew:=(Aj.refl _ _).drew;exact⟨h.AW.Aw i id (fun _ _=>id),i.An h.An id,i.own h.own (fun _ _=>id),h.Aw.drew,h.tw,h.dw⟩
def UO(w:World)(rb:Nat)(i j o p t:Value)(tb:Option Nat)(l:List Tk)(e:Ending)(w':World):Prop:=
 ∃A c,e=.returned (.agg #[.slice A (BR l).l.length c,.int .i64 (BR l).p])/\Aj (·=rb) w w'/\Cj w' rb i j o p t tb (l.dropWhile Ba)/\w'.ownsRow w.heap.size 201 3 (.slice A (BR l).l.length c) (BR l).l.length ((BR l).l.flatMap Tk.cells)
theorem R6{w:World}{rb:Nat}{f1 f2 f3 f4 f5:Value}{tb:Option Nat}{l:List Tk}(h:Cj w rb f1 f2 f3 f4 f5 tb l)(b2:l.length<=100000):Calls Tryz.prog 170 #[.pointer (some ⟨rb,0,none⟩)] w (UO w rb f1 f2 f3 f4 f5 tb l):=by
 obtain⟨aa,ae⟩:=h.lt;obtain⟨j,r0,a1⟩:=h.ended.cons;obtain⟨lv,o,p,C⟩:=h.ex;have hA:=Ay w (.cells #[.slice none 0 0,.int .i64 0] 211);have a7:=((Aj.refl (·=rb) w).alloc (.cells #[.slice none 0 0,.int .i64 0] 211)).alloc (.cells #[.slice none 0 0,.int .i64 j.p] 211);have hp:(BR l).p=j.p:=by rw[a1];rfl
 have HP:=Hd hp;have ad:Ij w rb f1 f2 f3 f4 f5 tb l (w.heap.size+1) j.p (.slice none 0 0) [] l ((w.alloc (.cells #[.slice none 0 0,.int .i64 0] 211)).alloc (.cells #[.slice none 0 0,.int .i64 j.p] 211)):=by have ax:=((Aj.refl (fun _=>False) w).alloc (.cells #[.slice none 0 0,.int .i64 0] 211)).alloc (.cells #[.slice none 0 0,.int .i64 j.p] 211);refine⟨h.Aw ax id (fun _ _ h=>h),?_,World.ownsRow_nil _ _ _ _,a7,rfl,rfl⟩;have:=Ah.new (w.alloc (.cells #[.slice none 0 0,.int .i64 0] 211)) 211 #[.slice none 0 0,.int .i64 j.p];rwa [World.size_alloc]at this
 have au:=Hd ad;have an:=Hd ((Ah.new w 211 #[.slice none 0 0,.int .i64 0]).alloc (.cells #[.slice none 0 0,.int .i64 j.p] 211));have aw:=o.cell 0;simp at aw;obtain⟨b,off,c,cs,rfl,a2⟩:=p;rw[a1]at a2;obtain⟨_,_,c2⟩:=a2.head;have b4:=a2.An.lt;have b3:(0:Int)<(l.length:Int):=by rw[a1,List.length_cons];omega
 clear hA a7 h o a2 a1 C hp ad;go_enter Tryz.func170,Tryz.ntmps170
 go_wp2;generalize b5:w.heap.size+1=sb at *;go_loopg [] l.length (fun n wr=>∃sv a rest,n=rest.length/\Hid (Ij w rb f1 f2 f3 f4 f5 tb l sb j.p sv a rest wr)/\Hid (Ah wr w.heap.size 211 #[.slice none 0 0,.int .i64 0]))
 case atStart=>exact⟨_,[],l,rfl,au,an⟩
 case round=>
  obtain⟨sv,a,rest,rfl,i,R⟩:=hrel;obtain⟨t,r,rfl⟩:=i.out.AW.ended.cons;have a8:=i.out.len;obtain⟨af,o,p,C⟩:=i.out.AW.ex;have h0:=o.cell 0;simp at h0;have H1:=Hd (Qu h0 p);obtain⟨A,c,rfl⟩:=Bw i.out.own;have b0:=i.out.An.cell 0;have b1:=i.out.An.cell 1;have u0:=i.out.An.frozen 0;have ag:=R.out.cell 0;have ah:=R.out.cell 1;have v0:=R.out.frozen 0;have v1:=R.out.frozen 1;simp at b0 b1 ag ah;have b6:=i.out.An.lt;cases I:Ba t with
  | true=>
   rw[I]at H1;have HD:=Hd i.out.drew;have ao:=Hd (((Aj.refl (fun _=>False) wr).drew).An R.out id);clear o p C;obtain⟨af,o,p,C⟩:=HD.out.AW.ex;have a5:=i.out.AW.ended.tail (NN I);have a4:af.ownBlock≠some rb:=by rw[C];exact i.out.AW.ne
   have H2:=Hd ((NT o p a5.2 a4).mono fun e P hx=>(by have:=hx.AW a5.1 a4;rw[C]at this;exact this:e=.returned (.agg #[.int .i64 t.k,.string (str t.s),.int .i64 t.p])/\Aj (·=rb) wr.drew P/\Cj P rb f1 f2 f3 f4 f5 tb r));have av:=Hd I;have HA:a.length+r.length<100000:=by simp at a8;omega
   clear o p h0 C I a5 a8 a4;go_wp2_with (go_at_call 167;refine H1.out.mono ?_;rintro e w' ⟨rfl,J⟩;replace J:=J.symm;subst J)
   go_region_law (first
    | (
      refine Ep KX (.tmp 15) (.tmp 18) ?_ ?_ (base:=w.heap.size) (n:=a.length) (m:=1) (N:=a.length+1) (v:=.slice A a.length c) (src:=.slice (some ⟨P.heap.size,0,none⟩) 1 1) (xs:=a.flatMap Tk.cells) (news:=[.int .i64 t.k,.string (str t.s),.int .i64 t.p]) ?_ ?_ ?_ ?_ ?_ ?_ ?_ ?_ ?_
      ·rfl
      ·rfl
      ·rfl
      ·rfl
      ·exact ak.out.alloc _
      ·exact Le P _ _ _
      ·rfl
      ·unfold maxLen;omega
      ·omega
      ·simp;omega
      intro A2 c2 w2 r1 r2 r3;have HF:=Hd (ZF aa ae (by omega) HD.out av.out ai.out ar.out r1 r2);have a3:=r2.An (aj.out.alloc _) (.inr (by decide));have z0:=a3.cell 0;have z1:=a3.frozen 0;simp at z0;have aq:=Hd ((r2.An (al.out.alloc _) (.inr (by decide))).BE (p:=⟨sb,0,none⟩) (by simp;omega) (.slice A2 (a.length+1) c2));clear r1 r2 r3 a3)
    | (
      go_simp;go_at_call 120;refine H2.out.mono ?_;intro e P hx;obtain⟨rfl,T,ab⟩:=hx;have ai:=Hd T;have ar:=Hd ab;have ak:=Hd (T.own HD.out.own (Cu HD.out.own aa));have hk:=T.An HD.out.An (by omega);have b0:=hk.cell 0;have u0:=hk.frozen 0;simp at b0;have aj:=Hd hk;have al:=Hd (T.An ao.out (by omega));have b7:wr.heap.size<=P.heap.size:=T.size;have b8:sb<P.heap.size:=by omega
      clear T ab hk))
   all_goals go_wp2
   all_goals go_roundg r.length
   all_goals first
    | (case measure=>simp)
    | (case rel=>exact⟨_,a++[t],r,rfl,HF,aq⟩)
    | skip
  | false=>
   rw[I]at H1;clear o p h0;go_wp2_with (go_at_call 167;refine H1.out.mono ?_;rintro e w' ⟨rfl,J⟩;replace J:=J.symm;subst J)
   refine bodyPost_ret (v:=.agg #[.slice A a.length c,.int .i64 j.p]) (by simp[results,Tryz.results170,go_sem,ag,ah]) rfl ?_;have a0:=i.out;have a6:=a0.tw;rw[List.takeWhile_cons,if_neg (by rw[I];simp),List.append_nil]at a6;have a9:=a0.dw;rw[List.dropWhile_cons,if_neg (by rw[I];simp)]at a9;have hX:Aj (·=w.heap.size) wr ((wr.setCell ⟨w.heap.size,0,none⟩ (.slice A a.length c)).setCell ⟨w.heap.size,1,none⟩ (.int .i64 j.p)):=((Aj.refl (·=w.heap.size) wr).set (p:=⟨w.heap.size,0,none⟩) (.inr rfl) _).set (p:=⟨w.heap.size,1,none⟩) (.inr rfl) _;refine⟨A,c,?_,(a0.Aw.set (p:=⟨w.heap.size,0,none⟩) (.inl (AG _)) _).set (p:=⟨w.heap.size,1,none⟩) (.inl (AG _)) _,?_,?_⟩
   ·rw[Nr,a6,HP.out]
   ·rw[a9]
    exact a0.AW.Aw hX (by omega) (fun g U=>by have:=ae g U;omega)
   ·rw[Nr,a6]
    refine hX.own a0.own ?_;intro g U he;rcases Bv a0.own with⟨e,_⟩|⟨b,c,e,_,_,_,_,az,ay⟩
    ·rw[e]at U;cases U
    ·rw[e]at U
     cases U
     exact Ah.A8 (t:=201) ay R.out (by decide) he
theorem Qy:El Tryz.prog 44 3 1 8:=El.of (z:=.int .i64 0) Tryz.underlying44 (by kernel_rfl) rfl (by decide)
theorem RO(y:World)(a:Int):Bc (y.alloc (.cells #[.int .i64 a] 3)) (.slice (some ⟨y.heap.size,0,none⟩) 1 1) 1 1 [.int .i64 a]:=
 Bc.An (c:=1) (Ah.new y 3 #[.int .i64 a]) rfl (by simp[Value.oneCell'])
theorem Aj.Cw{w w':World}{v:Value}(h:w.grownBy w' v.ownBlock):Aj (fun k=>v.ownBlock=some k) w w':=⟨h.os,h.tape,h.output,h.size,fun k i j=>h.block k i (fun e=>j e.symm)⟩
theorem Gd{w:World}{t C:Nat}{i j:TypeId}{s1 s2 U n2:Nat}{v1 p:Value}{a0 a1:List Value}(I:w.ownsRow t i s1 v1 U a0)(J:w.ownsRow C j s2 p n2 a1)(T:i≠j):∀g,v1.ownBlock=some g->¬p.ownBlock=some g:=by
 intro g l o;rcases Bv I with⟨rfl,_⟩|⟨b,c,rfl,_,_,_,_,a2,P⟩
 ·cases l
 ·cases l
  rcases Bv J with⟨rfl,_⟩|⟨b2,c2,rfl,_,_,_,_,a3,R⟩
  ·cases o
  ·cases o
   exact Ah.A8 (t:=i) P R T rfl
theorem BU{w:World}{B:Nat}{e:TypeId}{s n:Nat}{v:Value}{xs:List Value}(h:w.ownsRow B e s v n xs):∀g,v.ownBlock=some g->B<=g/\g<w.heap.size:=by
 intro g i;rcases Bv h with⟨rfl,_⟩|⟨b,c,rfl,j,l,_⟩
 ·cases i
 ·cases i
  exact⟨j,l⟩
def Mark(m:Nat):Value:=.int .i64 m
structure Dd(w:World)(B rb:Nat)(f4 f5:Value)(tb:Option Nat)(l:List Tk)(x:Bh)(dv kv sv:Value):Prop where
 AW:Cj w rb dv kv sv f4 f5 tb l
 decl:w.ownsRow B 201 3 dv x.decl.length (x.decl.flatMap Tk.cells)
 marks:w.ownsRow B 3 1 kv x.marks.length (x.marks.map Mark)
 starts:w.ownsRow B 201 3 sv x.starts.length (x.starts.flatMap Tk.cells)
 apart:∀g,dv.ownBlock=some g->¬sv.ownBlock=some g
 Ey:rb<B
 Gg:∀g,tb=some g->g<B
 bB:B<=w.heap.size
 ld:x.decl.length+l.length<=100000
 lm:x.marks.length+l.length<=100000
 ls:x.starts.length+l.length<=100000
theorem Dd.Aw{X:Nat->Prop}{w w':World}{B rb:Nat}{t C:Value}{tb:Option Nat}{l P:List Tk}{x:Bh}{p J R:Value}(h:Dd w B rb t C tb l x p J R)(o:Aj X w w')(I:∀k,X k->k=rb)(T:Cj w' rb p J R t C tb P)(U:P.length<=l.length):Dd w' B rb t C tb P x p J R where
 AW:=T
 decl:=o.own h.decl (fun g j i=>Cu h.decl h.Ey g j (I g i))
 marks:=o.own h.marks (fun g j i=>Cu h.marks h.Ey g j (I g i))
 starts:=o.own h.starts (fun g j i=>Cu h.starts h.Ey g j (I g i))
 apart:=h.apart
 Ey:=h.Ey
 Gg:=h.Gg
 bB:=AX h.bB o.size
 ld:=by have:=h.ld;omega
 lm:=by have:=h.lm;omega
 ls:=by have:=h.ls;omega
theorem Xf{w w2:World}{o:Obj}{B rb:Nat}{T U:Value}{tb:Option Nat}{l:List Tk}{x:Bh}{p kv sv:Value}{j:Option Addr}{c2 N:Nat}{t:Tk}(h:Dd w B rb T U tb l x p kv sv)(hl:x.decl.length+1+l.length<=100000)(hN:N=x.decl.length+1)
  (ho:w2.ownsRow B 201 3 (.slice j N c2) N (x.decl.flatMap Tk.cells++t.cells)) (hg:(w.alloc o).grownBy w2 p.ownBlock/\((Value.slice j N c2).ownBlock=p.ownBlock\/(Value.slice j N c2).ownBlock=some (w.alloc o).heap.size)) :
  Dd (w2.setCell ⟨rb,1,none⟩ (.slice j N c2)) B rb T U tb l {x with decl:=x.decl++[t]} (.slice j N c2) kv sv/\Aj (fun k=>k=rb\/B<=k) w (w2.setCell ⟨rb,1,none⟩ (.slice j N c2)):=by
 have hX:Aj (fun k=>p.ownBlock=some k) w w2:=((Aj.refl _ w).alloc o).next (.Cw hg.1);have P:∀k,p.ownBlock=some k->B<=k:=fun k hk=>(BU h.decl k hk).1
 have C:Aj (fun k=>k=rb\/p.ownBlock=some k) w (w2.setCell ⟨rb,1,none⟩ (.slice j N c2)):=(hX.mono (fun a1 J=>.inr J)).set (p:=⟨rb,1,none⟩) (.inr (.inl rfl)) _;have R:=h.Ey;obtain⟨lv,k1,k2,k3⟩:=h.AW.ex;have e1:¬p.ownBlock=some rb:=fun e=>by have:=P _ e;omega
 refine⟨⟨⟨⟨lv,by simpa using(hX.An k1 e1).Bn 1 _,k2.Aw C ?_,k3⟩,h.AW.ended,h.AW.ne⟩,?d,?k,?s,?_,h.Ey,h.Gg,AX h.bB C.size,?_,?_,?_⟩,C.mono ?_⟩
 ·intro g i
  rw[k3]at i;rintro(rfl|I)
  ·exact h.AW.ne i
  ·have:=h.Gg g i;have:=P g I;omega
 case d=>rw[show (x.decl++[t]).length=N by rw[hN];simp,List.flatMap_append];exact EB (by simpa [Tk.cells] using ho) (fun e=>Cu ho R _ e rfl) _
 case k=>
  refine C.own h.marks ?_;rintro g i (rfl|I)
  ·exact Cu h.marks R _ i rfl
  ·exact Gd h.decl h.marks (by decide) g I i
 case s=>
  refine C.own h.starts ?_;rintro g i (rfl|I)
  ·exact Cu h.starts R _ i rfl
  ·exact h.apart g I i
 ·intro g i a0
  rcases hg.2 with e|e
  ·rw[e]at i;exact h.apart g i a0
  ·rw[e]at i;cases i;have:=(BU h.starts _ a0).2;simp at this;omega
 ·have:=h.ld;simp at this ⊢;omega
 ·have:=h.lm;simp at this ⊢;omega
 ·have:=h.ls;simp at this ⊢;omega
 ·rintro a1 (J|J)
  ·exact .inl J
  ·exact .inr (P a1 J)
theorem UF{w w2:World}{o:Obj}{B rb:Nat}{T U:Value}{tb:Option Nat}{l:List Tk}{x:Bh}{R p sv:Value}{j:Option Addr}{c2 N:Nat}{m:Nat}(h:Dd w B rb T U tb l x R p sv)(hl:x.marks.length+1+l.length<=100000)(hN:N=x.marks.length+1)
  (ho:w2.ownsRow B 3 1 (.slice j N c2) N (x.marks.map Mark++[Mark m])) (hg:(w.alloc o).grownBy w2 p.ownBlock/\((Value.slice j N c2).ownBlock=p.ownBlock\/(Value.slice j N c2).ownBlock=some (w.alloc o).heap.size)) :
  Dd (w2.setCell ⟨rb,2,none⟩ (.slice j N c2)) B rb T U tb l {x with marks:=x.marks++[m]} R (.slice j N c2) sv/\Aj (fun k=>k=rb\/B<=k) w (w2.setCell ⟨rb,2,none⟩ (.slice j N c2)):=by
 have hX:Aj (fun k=>p.ownBlock=some k) w w2:=((Aj.refl _ w).alloc o).next (.Cw hg.1);have J:∀k,p.ownBlock=some k->B<=k:=fun k hk=>(BU h.marks k hk).1
 have t:Aj (fun k=>k=rb\/p.ownBlock=some k) w (w2.setCell ⟨rb,2,none⟩ (.slice j N c2)):=(hX.mono (fun a0 I=>.inr I)).set (p:=⟨rb,2,none⟩) (.inr (.inl rfl)) _;have P:=h.Ey;obtain⟨lv,k1,k2,k3⟩:=h.AW.ex;have e1:¬p.ownBlock=some rb:=fun e=>by have:=J _ e;omega
 refine⟨⟨⟨⟨lv,by simpa using(hX.An k1 e1).Bn 2 _,k2.Aw t ?_,k3⟩,h.AW.ended,h.AW.ne⟩,?d,?k,?s,?_,h.Ey,h.Gg,AX h.bB t.size,?_,?_,?_⟩,t.mono ?_⟩
 ·intro g i
  rw[k3]at i;rintro(rfl|C)
  ·exact h.AW.ne i
  ·have:=h.Gg g i;have:=J g C;omega
 case k=>rw[show (x.marks++[m]).length=N by rw[hN];simp,By];exact EB (by simpa [Mark] using ho) (fun e=>Cu ho P _ e rfl) _
 case d=>
  refine t.own h.decl ?_;rintro g i (rfl|C)
  ·exact Cu h.decl P _ i rfl
  ·exact Gd h.marks h.decl (by decide) g C i
 case s=>
  refine t.own h.starts ?_;rintro g i (rfl|C)
  ·exact Cu h.starts P _ i rfl
  ·exact Gd h.marks h.starts (by decide) g C i
 ·exact h.apart
 ·have:=h.ld;simp at this ⊢;omega
 ·have:=h.lm;simp at this ⊢;omega
 ·have:=h.ls;simp at this ⊢;omega
 ·rintro a0 (I|I)
  ·exact .inl I
  ·exact .inr (J a0 I)
theorem VC{w w2:World}{o:Obj}{B rb:Nat}{f4 f5:Value}{tb:Option Nat}{l:List Tk}{x:Bh}{U kv p:Value}{j:Option Addr}{c2 N:Nat}{t:Tk}(h:Dd w B rb f4 f5 tb l x U kv p)(hl:x.starts.length+1+l.length<=100000)(hN:N=x.starts.length+1)
  (ho:w2.ownsRow B 201 3 (.slice j N c2) N (x.starts.flatMap Tk.cells++t.cells)) (hg:(w.alloc o).grownBy w2 p.ownBlock/\((Value.slice j N c2).ownBlock=p.ownBlock\/(Value.slice j N c2).ownBlock=some (w.alloc o).heap.size)) :
  Dd (w2.setCell ⟨rb,3,none⟩ (.slice j N c2)) B rb f4 f5 tb l {x with starts:=x.starts++[t]} U kv (.slice j N c2)/\Aj (fun k=>k=rb\/B<=k) w (w2.setCell ⟨rb,3,none⟩ (.slice j N c2)):=by
 have hX:Aj (fun k=>p.ownBlock=some k) w w2:=((Aj.refl _ w).alloc o).next (.Cw hg.1);have R:∀k,p.ownBlock=some k->B<=k:=fun k hk=>(BU h.starts k hk).1
 have C:Aj (fun k=>k=rb\/p.ownBlock=some k) w (w2.setCell ⟨rb,3,none⟩ (.slice j N c2)):=(hX.mono (fun a0 J=>.inr J)).set (p:=⟨rb,3,none⟩) (.inr (.inl rfl)) _;have T:=h.Ey;obtain⟨lv,k1,k2,k3⟩:=h.AW.ex;have e1:¬p.ownBlock=some rb:=fun e=>by have:=R _ e;omega
 refine⟨⟨⟨⟨lv,by simpa using(hX.An k1 e1).Bn 3 _,k2.Aw C ?_,k3⟩,h.AW.ended,h.AW.ne⟩,?d,?k,?s,?_,h.Ey,h.Gg,AX h.bB C.size,?_,?_,?_⟩,C.mono ?_⟩
 ·intro g i
  rw[k3]at i;rintro(rfl|I)
  ·exact h.AW.ne i
  ·have:=h.Gg g i;have:=R g I;omega
 case s=>rw[show (x.starts++[t]).length=N by rw[hN];simp,List.flatMap_append];exact EB (by simpa [Tk.cells] using ho) (fun e=>Cu ho T _ e rfl) _
 case d=>
  refine C.own h.decl ?_;rintro g i (rfl|I)
  ·exact Cu h.decl T _ i rfl
  ·exact h.apart g i I
 case k=>
  refine C.own h.marks ?_;rintro g i (rfl|I)
  ·exact Cu h.marks T _ i rfl
  ·exact Gd h.starts h.marks (by decide) g I i
 ·intro g i P
  rcases hg.2 with e|e
  ·rw[e]at P;exact h.apart g i P
  ·rw[e]at P;cases P;have:=(BU h.decl _ i).2;simp at this;omega
 ·have:=h.ld;simp at this ⊢;omega
 ·have:=h.lm;simp at this ⊢;omega
 ·have:=h.ls;simp at this ⊢;omega
 ·rintro a0 (J|J)
  ·exact .inl J
  ·exact .inr (R a0 J)
def O2(w:World)(rb:Nat)(f1 f2 f3 f4 f5:Value)(tb:Option Nat)(t:Tk)(r:List Tk)(e:Ending)(w':World):Prop:=
 e=.returned (.agg #[.int .i64 t.k,.string (str t.s),.int .i64 t.p])/\Aj (·=rb) w w'/\Cj w' rb f1 f2 f3 f4 f5 tb r
namespace Cj
variable {w:World} {rb:Nat} {f1 f2 f3 f4 f5:Value} {tb:Option Nat} {t:Tk} {r l:List Tk}
theorem is(h:Cj w rb f1 f2 f3 f4 f5 tb (t::r))(k:Nat)(K:Int)(p:K=(k:Int)):Calls Tryz.prog 118 #[.pointer (some ⟨rb,0,none⟩),.int .i64 K] w fun e w'=>e=.returned (.bool (t.k==k))/\w=w':=by subst p;obtain⟨I,o,C,_⟩:=h.ex;exact(J2 (o.cell 0) C k).mono fun e w' ⟨i,j⟩=>⟨i,j.symm⟩
theorem sym(h:Cj w rb f1 f2 f3 f4 f5 tb (t::r)):Calls Tryz.prog 167 #[.pointer (some ⟨rb,0,none⟩)] w fun e w'=>e=.returned (.bool (Ba t))/\w=w':=by obtain⟨C,o,p,_⟩:=h.ex;exact(Qu (o.cell 0) p).mono fun e w' ⟨i,j⟩=>⟨i,j.symm⟩
theorem bad(h:Cj w rb f1 f2 f3 f4 f5 tb (t::r)):Calls Tryz.prog 168 #[.pointer (some ⟨rb,0,none⟩)] w fun e w'=>e=.panicked [{v:=.iface 134 (.agg #[.int .i64 (DG (t::r)).1,.int .i64 (DG (t::r)).2]),recovered:=false}]/\w=w':=by obtain⟨C,o,p,_⟩:=h.ex;exact(PO (o.cell 0) p).mono fun e w' ⟨i,j⟩=>⟨i,j.symm⟩
theorem take(h:Cj w rb f1 f2 f3 f4 f5 tb (t::r))(I:t.k≠0):Calls Tryz.prog 120 #[.pointer (some ⟨rb,0,none⟩)] w (O2 w rb f1 f2 f3 f4 f5 tb t r):=by
 obtain⟨R,C,J,j⟩:=h.ex;obtain⟨o,p⟩:=h.ended.tail I;have i:R.ownBlock≠some rb:=by rw[j];exact h.ne
 refine(NT C J p i).mono fun e T P=>?_
 have:=P.AW o i;rw[j]at this;exact this
theorem want(h:Cj w rb f1 f2 f3 f4 f5 tb (t::r))(k:Nat)(K:Int)(J:K=(k:Int))(i:t.k=k)(h0:k≠0):Calls Tryz.prog 169 #[.pointer (some ⟨rb,0,none⟩),.int .i64 K] w (O2 w rb f1 f2 f3 f4 f5 tb t r):=by
 subst J;obtain⟨T,I,P,o⟩:=h.ex;obtain⟨p,C⟩:=h.ended.tail (i▸h0);have j:T.ownBlock≠some rb:=by rw[o];exact h.ne
 refine(bE I P C j k (by simp[i])).mono fun e U R=>?_
 have:=R.AW p j;rw[o]at this;exact this
theorem Mx(h:Cj w rb f1 f2 f3 f4 f5 tb (t::r))(k:Nat)(K:Int)(j:K=(k:Int))(o:t.k≠k):Calls Tryz.prog 169 #[.pointer (some ⟨rb,0,none⟩),.int .i64 K] w fun e w'=>e=.panicked [{v:=.iface 134 (.agg #[.int .i64 (DG (t::r)).1,.int .i64 (DG (t::r)).2]),recovered:=false}]/\Below w.heap.size w w':=by subst j;obtain⟨C,i,p,_⟩:=h.ex;exact Ze (i.cell 0) p k (by simp[o])
theorem drew(h:Cj w rb f1 f2 f3 f4 f5 tb l):Cj w.drew rb f1 f2 f3 f4 f5 tb l:=h.Aw ((Aj.refl (fun _=>False) w).drew) id (fun _ _=>id)
theorem cells(h:Cj w rb f1 f2 f3 f4 f5 tb l):w.cell? ⟨rb,1,none⟩=some f1/\w.cell? ⟨rb,2,none⟩=some f2/\w.cell? ⟨rb,3,none⟩=some f3/\w.cell? ⟨rb,4,none⟩=some f4/\w.cell? ⟨rb,5,none⟩=some f5/\rb<w.heap.size:=by obtain⟨o,i,j,_⟩:=h.ex;exact⟨i.cell 1,i.cell 2,i.cell 3,i.cell 4,i.cell 5,i.lt⟩
theorem frozen(h:Cj w rb f1 f2 f3 f4 f5 tb l)(k:Nat):w.frozen? ⟨rb,k,none⟩=false:=by obtain⟨o,i,j,_⟩:=h.ex;exact i.frozen k
end Cj
theorem Dd.drew{w:World}{B rb:Nat}{f4 f5:Value}{tb:Option Nat}{l:List Tk}{x:Bh}{i j o:Value}(h:Dd w B rb f4 f5 tb l x i j o):Dd w.drew B rb f4 f5 tb l x i j o:=
 h.Aw ((Aj.refl (fun _=>False) w).drew) (fun _ h=>h.elim) h.AW.drew (AG _)
theorem Dd.ex{w:World}{B rb:Nat}{f4 f5:Value}{tb:Option Nat}{l:List Tk}{x:Bh}{p C I:Value}(h:Dd w B rb f4 f5 tb l x p C I):∃i c1 j c2 o c3,p=.slice i x.decl.length c1/\C=.slice j x.marks.length c2/\I=.slice o x.starts.length c3:=by obtain⟨i,c1,J⟩:=Bw h.decl;obtain⟨j,c2,P⟩:=Bw h.marks;obtain⟨o,c3,R⟩:=Bw h.starts;exact⟨i,c1,j,c2,o,c3,J,P,R⟩
theorem Dd.grown{w w2:World}{o:Obj}{B rb:Nat}{f4 f5 v:Value}{tb:Option Nat}{l:List Tk}{x:Bh}{i p C:Value}(h:Dd w B rb f4 f5 tb l x i p C)(j:∀k,v.ownBlock=some k->B<=k/\k<w.heap.size)(I:(w.alloc o).grownBy w2 v.ownBlock):Cj w2 rb i p C f4 f5 tb l:=by
 refine h.AW.Aw (((Aj.refl _ w).alloc o).next (.Cw I)) (fun e=>?_) (fun g J e=>?_)
 ·have:=(j _ e).1;have:=h.Ey;omega
 ·have:=(j _ e).1;have:=h.Gg _ J;omega
def cK(w:World)(B rb:Nat)(f4 f5:Value)(tb:Option Nat)(x:Bh)(l:List Tk)(e:Ending)(w':World):Prop:=
 Aj (fun k=>k=rb\/B<=k) w w'/\match Da x l with
 | .ok (C,o)=>e=.returned (.tuple #[])/\∃i j p,Dd w' B rb f4 f5 tb o C i j p
 | .error f=>BS f e
theorem ZV(k p:Int)(s:ByteArray)(w:World):(Instr.field 201 (.agg #[.int .i64 k,.string s,.int .i64 p]) 2).run Tryz.prog w=.ok (.int .i64 p) w:=by kernel_rfl
theorem eD{w:World}{B rb:Nat}{f4 f5:Value}{tb:Option Nat}{l:List Tk}{x:Bh}{dv kv sv:Value}(h:Dd w B rb f4 f5 tb l x dv kv sv):Calls Tryz.prog 119 #[.pointer (some ⟨rb,0,none⟩)] w (cK w B rb f4 f5 tb x l):=by
 obtain⟨t,r,rfl⟩:=h.AW.ended.cons;obtain⟨A1,c1,A2,c2,A3,c3,rfl,rfl,rfl⟩:=h.ex;have H7:=Hd (h.AW.is 7 7 rfl);have H8:=Hd (h.AW.is 8 8 rfl);have al:=Hd h.AW.bad;have bb:=h.Ey;by_cases U:t.k=7
 ·have hk:(t.k==7)=true:=by simp[U]
  rw[hk]at H7;have HT:=Hd (h.AW.take (by omega));obtain⟨j,o,rfl⟩:=(h.AW.ended.tail (by omega)).1.cons;have HH:=Hd h;cases I:Ba j with
  | false=>
   have HE:Hid (Da x (t::j::o)=.error (DG (j::o))):=Hd (by simp[Da,U,I]);have ag:=Hd I;clear h U I hk;go_enter Tryz.func119,Tryz.ntmps119
   go_wp2_with (first
    | (go_at_call 118;with_reducible refine H7.out.mono ?_;rintro e R ⟨rfl,i⟩;subst i)
    | (go_at_call 120;refine HT.out.mono ?_;intro e w1 hx;obtain⟨rfl,a1,a0⟩:=hx;have aa:=Hd a1;have HY:=Hd (ag.out▸a0.sym);have ak:=Hd a0.bad;clear a1 a0)
    | (go_at_call 167;refine HY.out.mono ?_;rintro e R ⟨rfl,i⟩;subst i)
    | (go_at_call 168;refine ak.out.mono ?_;rintro e R ⟨rfl,i⟩;subst i))
   refine⟨rfl,aa.out.mono (fun _ h=>.inl h),?_⟩;rw[HE.out];exact BS.of rfl rfl
  | true=>
   have HE:Hid (Da x (t::j::o)=.ok ({x with decl:=x.decl++(j::o).takeWhile Ba},(j::o).dropWhile Ba)):=Hd (by simp[Da,U,I]);have ag:=Hd I;have HN:Hid (j::o≠[]):=Hd (by simp);have b6:Hid (x.decl.length+(j::o).length<=100000):=Hd (by have:=h.ld;simp at this ⊢;omega);clear U hk;go_enter Tryz.func119,Tryz.ntmps119
   go_wp2_with (first
    | (go_at_call 118;with_reducible refine H7.out.mono ?_;rintro e R ⟨rfl,i⟩;subst i)
    | (go_at_call 120;refine HT.out.mono ?_;intro e w1 hx;obtain⟨rfl,a1,a0⟩:=hx;have aa:=Hd a1;have HY:=Hd (I▸a0.sym);have af:=Hd (HH.out.Aw a1 (fun _ h=>h) a0 (by simp));clear a1 a0 h I)
    | (go_at_call 167;refine HY.out.mono ?_;rintro e R ⟨rfl,i⟩;subst i))
   have bd:B<=w1.heap.size:=af.out.bB;go_loopg [] (j::o).length (fun n wr=>∃dv a rest,n=rest.length/\Hid (Dd wr B rb f4 f5 tb rest {x with decl:=x.decl++a} dv (.slice A2 x.marks.length c2) (.slice A3 x.starts.length c3))/\Hid (Aj (fun k=>k=rb\/B<=k) w wr)/\Hid ((j::o).takeWhile Ba=a++rest.takeWhile Ba/\(j::o).dropWhile Ba=rest.dropWhile Ba))
   case atStart=>
    have b0:Dd w1 B rb f4 f5 tb (j::o) {x with decl:=x.decl++[]} (.slice A1 x.decl.length c1) (.slice A2 x.marks.length c2) (.slice A3 x.starts.length c3):=by rw[List.append_nil];exact af.out
    exact⟨.slice A1 x.decl.length c1,[],j::o,rfl,Hd b0,Hd (aa.out.mono (fun _ h=>.inl h)),Hd ⟨rfl,rfl⟩⟩
   case round=>
    obtain⟨dv,a,rest,rfl,HR,HC,a8⟩:=hrel;obtain⟨t3,r3,rfl⟩:=HR.out.AW.ended.cons;obtain⟨A,c,au⟩:=Bw HR.out.decl;generalize ai:(x.decl++a).length=n at *;have ar:=HR.out.ld;have ay:({x with decl:=x.decl++a}:Bh).decl.length=n:=ai;simp at ar ai;subst au;have a9:=Hd HR.out.AW.sym;have az:=HR.out.bB;cases h3:Ba t3 with
    | false=>
     rw[h3]at a9;go_wp2_with (go_at_call 167;refine a9.out.mono ?_;rintro e R ⟨rfl,i⟩;subst i)
     refine bodyPost_ret (results_none rfl _ _ _) rfl ⟨HC.out,?_⟩;rw[HE.out];have h1:=a8.out.1;have I:=a8.out.2;rw[List.takeWhile_cons (a:=t3),if_neg (by rw[h3];simp),List.append_nil]at h1;rw[List.dropWhile_cons (x:=t3),if_neg (by rw[h3];simp)]at I;rw[h1,I];exact⟨rfl,_,_,_,HR.out⟩
    | true=>
     rw[h3]at a9;have ad:=Hd HR.out.drew;have ao:=Hd (ad.out.AW.take (NN h3));have ah:=Hd h3;obtain⟨b1,_,_,_,_,_⟩:=ad.out.AW.cells;clear h3;go_wp2_with (go_at_call 167;refine a9.out.mono ?_;rintro e R ⟨rfl,i⟩;subst i)
     go_region_law (first
       | (
         refine Ep KX (.tmp 20) (.tmp 23) ?_ ?_ (base:=B) (n:=n) (m:=1) (N:=n+1) (v:=.slice A n c) (src:=.slice (some ⟨w3.heap.size,0,none⟩) 1 1) (xs:=(x.decl++a).flatMap Tk.cells) (news:=t3.cells) ?_ ?_ ?_ ?_ ?_ ?_ ?_ ?_ ?_
         · rfl
         · rfl
         · rfl
         · rfl
         · have:=T.out.decl
           rw[ay]at this;exact this.alloc _
         · exact Le w3 _ _ _
         · rfl
         · unfold maxLen;omega
         · omega
         · simp;omega
         intro A4 c4 w4 q1 q2 P;have HF:=Hd (Xf T.out (by simp;omega) (by simp;omega) q1 P);have J:=T.out.grown (BU T.out.decl) P.1;obtain⟨cA,_,_,_,_,_⟩:=J.cells;have vA:=J.frozen 1;clear q1 q2 P J)
       | (
         go_simp;go_at_call 120;refine ao.out.mono ?_;intro e w3 hx;obtain⟨rfl,p,C⟩:=hx;have ab:=Hd p;have T:=Hd (ad.out.Aw p (fun _ h=>h) C (by simp));obtain⟨d1,_,_,_,_,aj⟩:=C.cells;have v1:=C.frozen 1;have b4:wr.heap.size<=w3.heap.size:=p.size;clear p C))
     all_goals go_wp2
     all_goals go_roundg r3.length
     all_goals first
       | (case measure=>simp)
       | (case rel=>
          refine⟨.slice A4 (n+1) c4,a++[t3],r3,rfl,Hd ?_,Hd ?_,Hd ?_⟩
          · have:=HF.out.1
            rw[List.append_assoc]at this;exact this
          · exact(HC.out.drew.next (ab.out.mono (fun _ h=>.inl h))).next HF.out.2
          · have h1:=a8.out.1
            have I:=a8.out.2;rw[List.takeWhile_cons (a:=t3),if_pos ah.out]at h1;rw[List.dropWhile_cons (x:=t3),if_pos ah.out]at I;exact⟨by rw[h1];simp,I⟩)
 ·have hk:(t.k==7)=false:=by simp[U]
  rw[hk]at H7;by_cases h8:t.k=8
  ·have a3:(t.k==8)=true:=by simp[h8]
   rw[a3]at H8;obtain⟨j,o,rfl⟩:=(h.AW.ended.tail (by omega)).1.cons;have HD:=Hd h.drew;have HT:=Hd (HD.out.AW.take (by omega));obtain⟨_,b2,_,_,_,az⟩:=HD.out.AW.cells;have aw:=h.lm;have ax:=h.ls;simp at aw ax;have b8:=h.bB;have a4:Hid (j.k=1->Da x (t::j::o)=.ok ({x with marks:=x.marks++[t.p],starts:=x.starts++[j]},o)):=Hd (fun e=>by simp[Da,h8,Cm,e]);have a5:Hid (j.k≠1->Da x (t::j::o)=.error (DG (j::o))):=Hd (fun e=>by simp[Da,h8,Cm,e]);have b9:=ZV t.k t.p (str t.s);clear h U h8 hk a3;go_enter Tryz.func119,Tryz.ntmps119
   go_wp2_with (first
    | (go_at_call 118;with_reducible refine H7.out.mono ?_;rintro e R ⟨rfl,i⟩;subst i)
    | (go_at_call 118;with_reducible refine H8.out.mono ?_;rintro e R ⟨rfl,i⟩;subst i))
   go_region_law (first
    | (
      refine Ep Qy (.tmp 34) (.tmp 38) ?_ ?_ (base:=B) (n:=x.marks.length) (m:=1) (N:=x.marks.length+1) (v:=.slice A2 x.marks.length c2) (src:=.slice (some ⟨w3.heap.size,0,none⟩) 1 1) (xs:=x.marks.map Mark) (news:=[Mark t.p]) ?_ ?_ ?_ ?_ ?_ ?_ ?_ ?_ ?_
      · rfl
      · rfl
      · rfl
      · rfl
      · exact T.out.marks.alloc _
      · exact RO w3 _
      · rfl
      · unfold maxLen;omega
      · omega
      · simp;omega
      intro A4 c4 w4 q1 q2 P;have HF:=Hd (UF T.out (by simp;omega) (by simp) q1 P);have J:=T.out.grown (BU T.out.marks) P.1;obtain⟨_,cA,_,_,_,_⟩:=J.cells;have vA:=J.frozen 2;clear q1 q2 P J)
    | (
      go_simp;go_at_call 120;refine HT.out.mono ?_;intro e w3 hx;obtain⟨rfl,p,C⟩:=hx;have ab:=Hd p;have T:=Hd (HD.out.Aw p (fun _ h=>h) C (by simp));obtain⟨_,d2,_,_,_,aj⟩:=C.cells;have v1:=C.frozen 2;have b4:w.heap.size<=w3.heap.size:=p.size;clear p C))
   all_goals go_wp2
   all_goals generalize b5:World.setCell w4 ⟨rb,2,none⟩ (.slice A4 (x.marks.length+1) c4)=w5 at *
   all_goals clear b2 d2 v1 cA vA b5
   all_goals have a6:=Hd HF.out.1.drew
   all_goals have ae:=Hd ((((Aj.refl (fun k=>k=rb\/B<=k) w).drew.next (ab.out.mono (fun _ h=>.inl h))).next HF.out.2).drew)
   all_goals have b7:=HF.out.1.bB
   all_goals have av:=HF.out.1.ld
   all_goals simp at av
   all_goals obtain⟨_,_,b3,_,_,ba⟩:=a6.out.AW.cells
   all_goals by_cases a2:j.k=1
   all_goals first
    | (
      have HW:=Hd (a6.out.AW.want 1 1 rfl a2 (by omega));replace a4:=Hd (a4.out a2);clear a2 a5;go_region_law (first
        | (
          refine Ep KX (.tmp 46) (.tmp 49) ?_ ?_ (base:=B) (n:=x.starts.length) (m:=1) (N:=x.starts.length+1) (v:=.slice A3 x.starts.length c3) (src:=.slice (some ⟨w6.heap.size,0,none⟩) 1 1) (xs:=x.starts.flatMap Tk.cells) (news:=j.cells) ?_ ?_ ?_ ?_ ?_ ?_ ?_ ?_ ?_
          · rfl
          · rfl
          · rfl
          · rfl
          · exact a7.out.starts.alloc _
          · exact Le w6 _ _ _
          · rfl
          · unfold maxLen;omega
          · omega
          · simp;omega
          intro A6 c6 w7 q1 q2 P;have HG:=Hd (VC a7.out (by simp;omega) (by simp) q1 P);have J:=a7.out.grown (BU a7.out.starts) P.1;obtain⟨_,_,cA,_,_,_⟩:=J.cells;have vA:=J.frozen 3;clear q1 q2 P J)
        | (
          go_simp;go_at_call 169;refine HW.out.mono ?_;intro e w6 hx;obtain⟨rfl,p,C⟩:=hx;have an:=Hd p;have a7:=Hd (a6.out.Aw p (fun _ h=>h) C (by simp));obtain⟨_,_,d2,_,_,aj⟩:=C.cells;have v1:=C.frozen 3;have bc:w5.heap.size<=w6.heap.size:=p.size;clear p C))
      all_goals go_wp2
      all_goals refine bodyPost_ret (results_none rfl _ _ _) rfl ⟨(ae.out.next (an.out.mono (fun _ h=>.inl h))).next HG.out.2,?_⟩
      all_goals rw[a4.out]
      all_goals exact⟨rfl,_,_,_,HG.out.1⟩)
    | (
      have HW:=Hd (a6.out.AW.Mx 1 1 rfl a2);replace a5:=Hd (a5.out a2);clear a2 a4
      go_region_dies
      all_goals (refine HW.out.mono ?_;rintro e w6 ⟨rfl,aq⟩;exact⟨rfl,ae.out.next (.AH aq),by rw[a5.out];exact BS.of rfl rfl⟩))
  ·have a3:(t.k==8)=false:=by simp[h8]
   rw[a3]at H8;have HE:Hid (Da x (t::r)=.error (DG (t::r))):=Hd (by simp[Da,U,h8]);clear h U h8 hk a3;go_enter Tryz.func119,Tryz.ntmps119
   go_wp2_with (first
    | (go_at_call 118;with_reducible refine H7.out.mono ?_;rintro e R ⟨rfl,i⟩;subst i)
    | (go_at_call 118;with_reducible refine H8.out.mono ?_;rintro e R ⟨rfl,i⟩;subst i)
    | (go_at_call 168;refine al.out.mono ?_;rintro e R ⟨rfl,i⟩;subst i))
   refine⟨rfl,Aj.refl _ _,?_⟩;rw[HE.out];exact BS.of rfl rfl
theorem Ig{w:World}{B i:Nat}{e:TypeId}{size n:Nat}{v:Value}{xs:List Value}(h:w.ownsRow B e size v n xs)(l:i<=B):w.ownsRow i e size v n xs:=by
 refine⟨h.1,?_⟩;rcases h.2 with p|⟨g,cap,j,rfl,o,rest⟩
 ·exact .inl p
 ·exact .inr ⟨g,cap,j,rfl,AX l o,rest⟩
structure GS where
 s:PS
 v:Value
def GS.cells(q:GS):List Value:=[q.v,.int .i64 q.s.p]
structure Bm where
 left:Tk
 v:Value
 ss:List GS
def Bm.cells(r:Bm):List Value:=[.int .i64 r.left.k,.string (str r.left.s),.int .i64 r.left.p,r.v]
def Bm.r(r:Bm):PR:=⟨r.left,r.ss.map GS.s⟩
def Iz(w:World)(B:Nat)(q:GS):Prop:=w.ownsRow B 201 3 q.v q.s.l.length (q.s.l.flatMap Tk.cells)
def Ik(w:World)(B:Nat)(r:Bm):Prop:=w.ownsRow B 211 2 r.v r.ss.length (r.ss.flatMap GS.cells)/\∀q∈r.ss,Iz w B q
theorem Iz.Aw{X:Nat->Prop}{w w':World}{B:Nat}{q:GS}(h:Iz w B q)(j:Aj X w w')(l:∀g,B<=g->g<w.heap.size->¬X g):Iz w' B q:=
 j.own h (fun g i=>l g (BU h g i).1 (BU h g i).2)
theorem Ik.Aw{X:Nat->Prop}{w w':World}{B:Nat}{r:Bm}(h:Ik w B r)(i:Aj X w w')(l:∀g,B<=g->g<w.heap.size->¬X g):Ik w' B r:=
 ⟨i.own h.1 (fun g j=>l g (BU h.1 g j).1 (BU h.1 g j).2),fun q o=>(h.2 q o).Aw i l⟩
theorem SM:El Tryz.prog 206 211 2 32:=El.of (z:=.agg #[.slice none 0 0,.int .i64 0]) Tryz.underlying206 (by kernel_rfl) rfl (by decide)
theorem VP:El Tryz.prog 138 208 4 56:=El.of (z:=.agg #[.int .i64 0,.string ⟨#[]⟩,.int .i64 0,.slice none 0 0]) Tryz.underlying138 (by kernel_rfl) rfl (by decide)
theorem TZ(y:World)(A:Option Addr)(n c:Nat)(p:Int):Bc (y.alloc (.cells #[.slice A n c,.int .i64 p] 211)) (.slice (some ⟨y.heap.size,0,none⟩) 1 1) 1 2 [.slice A n c,.int .i64 p]:=
 Bc.An (c:=1) (Ah.new y 211 #[.slice A n c,.int .i64 p]) rfl (by simp[Value.oneCell'])
structure Hc(w:World)(rb:Nat)(f1 f2 f3 f4 f5:Value)(tb:Option Nat)(bb:Nat)(t:Tk)(sv:Value)(ss:List GS)(rest:List Tk)(wr:World):Prop where
 AW:Cj wr rb f1 f2 f3 f4 f5 tb rest
 An:Ah wr bb 208 #[.int .i64 t.k,.string (str t.s),.int .i64 t.p,sv]
 own:wr.ownsRow w.heap.size 211 2 sv ss.length (ss.flatMap GS.cells)
 Hg:∀q∈ss,Iz wr w.heap.size q
 Aw:Aj (·=rb) w wr
 bb:w.heap.size<=bb
 rb:rb<w.heap.size
 tb:∀g,tb=some g->g<w.heap.size
namespace Hc
variable {w wr:World} {rb:Nat} {f1 f2 f3 f4 f5:Value} {tb:Option Nat} {bb:Nat} {t:Tk} {sv:Value} {ss:List GS} {rest:List Tk}
theorem later(h:Hc w rb f1 f2 f3 f4 f5 tb bb t sv ss rest wr){j:World}{l:List Tk}(i:Aj (·=rb) wr j)(p:Cj j rb f1 f2 f3 f4 f5 tb l):Hc w rb f1 f2 f3 f4 f5 tb bb t sv ss l j:=by have J:=h.rb;have I:=h.bb;exact⟨p,i.An h.An (by omega),i.own h.own (Cu h.own h.rb),fun q o=>(h.Hg q o).Aw i (fun g C _ e=>by omega),h.Aw.next i,h.bb,h.rb,h.tb⟩
theorem drew(h:Hc w rb f1 f2 f3 f4 f5 tb bb t sv ss rest wr):Hc w rb f1 f2 f3 f4 f5 tb bb t sv ss rest wr.drew:=h.later ((Aj.refl _ _).drew) h.AW.drew
theorem rel(h:Hc w rb f1 f2 f3 f4 f5 tb bb t sv ss rest wr){l w2:World}{A j:Option Addr}{c c2:Nat}(hn:j=j)
  (a3:Aj (·=rb) wr l) (C:Cj l rb f1 f2 f3 f4 f5 tb (rest.dropWhile Ba)) (a5:l.ownsRow wr.heap.size 201 3 (.slice A (BR rest).l.length c) (BR rest).l.length ((BR rest).l.flatMap Tk.cells))
  (r1:w2.ownsRow w.heap.size 211 2 (.slice j (ss.length+1) c2) (ss.length+1) (ss.flatMap GS.cells++[.slice A (BR rest).l.length c,.int .i64 (BR rest).p]))
  (o:AI w.heap.size [211] (l.alloc (.cells #[.slice A (BR rest).l.length c,.int .i64 (BR rest).p] 211)) w2) :
  Hc w rb f1 f2 f3 f4 f5 tb bb t (.slice j (ss.length+1) c2) (ss++[⟨BR rest,.slice A (BR rest).l.length c⟩]) (rest.dropWhile Ba) (w2.setCell ⟨bb,3,none⟩ (.slice j (ss.length+1) c2)):=by
 have J:=h.later a3 C;have a6:=h.rb;have a0:=h.bb;have a7:rb≠bb:=by omega
 have a8:w.heap.size<=wr.heap.size:=h.Aw.size;have P:Ah w2 bb 208 #[.int .i64 t.k,.string (str t.s),.int .i64 t.p,sv]:=o.An (J.An.alloc _) (.inr (by decide));have a4:Aj (·=rb) w w2:=(J.Aw.alloc _).keeps o;have a1:∀q,Iz l w.heap.size q->Iz (w2.setCell ⟨bb,3,none⟩ (.slice j (ss.length+1) c2)) w.heap.size q:=by
  intro q i;have U:Iz w2 w.heap.size q:=o.own ((Aj.refl (fun _=>False) l).alloc _ |>.own i (fun _ _=>id)) (.inr (by decide));refine EB U ?_ _;intro e;rcases Bv U with⟨I,_⟩|⟨b,c,I,_,_,_,_,a2,R⟩
  ·rw[I]at e;cases e
  ·rw[I]at e
   cases e
   exact Ah.A8 (t:=201) R P (by decide) rfl
 refine⟨⟨?_,C.ended,C.ne⟩,by simpa using P.Bn 3 _,?_,?_,a4.set (p:=⟨bb,3,none⟩) (.inl a0) _,a0,a6,h.tb⟩
 ·obtain⟨lv,k1,k2,k3⟩:=C.ex
  refine⟨lv,(o.An (k1.alloc _) (.inr (by decide))).BE (by simpa using a7) _,?_,k3⟩;obtain⟨b,off,c,cs,rfl,T⟩:=k2;have hb:=h.tb b (by rw[<-k3];rfl);exact⟨b,off,c,cs,rfl,(o.An (T.An.alloc _) (.inl hb)).BE (by simp;omega) _,T.cap,T.cell⟩
 ·rw[show (ss++[⟨BR rest,.slice A (BR rest).l.length c⟩]:List GS).length=ss.length+1 by simp,List.flatMap_append]
  refine EB (by simpa [GS.cells] using r1) ?_ _;intro p;rcases Bv r1 with⟨e,_⟩|⟨b,c,e,_,_,_,_,a2,R⟩
  ·rw[e]at p;cases p
  ·rw[e]at p
   cases p
   exact Ah.A8 (t:=211) R P (by decide) rfl
 ·intro q i
  rcases mA.1 i with i|i
  ·exact a1 q (J.Hg q i)
  ·rw[mS]at i
   subst i;exact a1 _ (Ig a5 a8)
end Hc
section
open Go.RowKit Go.Maps
theorem IB:Keyed Tryz.prog 9:=string_keyed Tryz.underlying9
theorem Lq(w:World):(zeroValue 3).run Tryz.prog w=.ok (.int .i64 0) w:=by kernel_rfl
def B6(s:List UInt8):Lit:=.string s
theorem LR(s:List UInt8):WideAt.IsKeyLit (B6 s):=by unfold B6;simp[WideAt.IsKeyLit]
theorem NL{a b:List UInt8}(h:B6 a=B6 b):a=b:=by unfold B6 at h;injection h
def IQ(D:DataW Unit)(L:List (List UInt8)):Prop:=∀s,D.atKey (B6 s) (.lit (.int .i64 0))=.lit (.int .i64 (L.count s))
theorem IQ.start:IQ (.map []) []:=fun s=>rfl
theorem IQ.next{D:DataW Unit}{L:List (List UInt8)}(h:IQ D L)(j:Maps.Tidy D)(s:List UInt8):IQ (D.put (B6 s) (.lit (.int .i64 (L.count s+1)))) (L++[s]):=by
 intro u;rw[List.count_append];by_cases e:u=s
 ·subst e
  rw[Maps.atKey_put_same j.isMap (LR _)];simp
 ·rw[Maps.atKey_put_other (fun i=>e (NL i)),h u]
  have:List.count u [s]=0:=by rw[List.count_eq_zero];simpa using e
  rw[this,Nat.add_zero]
theorem D6{X:Nat->Prop}{w w':World}{b n:Nat}{D:DataW Unit}(h:w.ownsMap Tryz.prog 9 (plainElem Tryz.prog 3) b n D)(l:Aj X w w')(o:¬X b):w'.ownsMap Tryz.prog 9 (plainElem Tryz.prog 3) b n D:=by obtain⟨j,clock,i,rest⟩:=h;exact⟨j,clock,(l.block b (aG.1 i).1 o).trans i,rest⟩
structure DL(w:World)(B rb mb:Nat)(tb:Option Nat)(l:List Tk)(x:Bh)(dv kv sv rv:Value)(rs:List Bm)(D:DataW Unit):Prop where
 Bp:Dd w B rb rv (.map (some mb)) tb l x dv kv sv
 rules:w.ownsRow B 208 4 rv rs.length (rs.flatMap Bm.cells)
 Hg:∀r∈rs,Ik w B r
 map:w.ownsMap Tryz.prog 9 (plainElem Tryz.prog 3) mb rs.length D
 Lb:IQ D (rs.map fun r=>r.left.s)
 Ow:mb<B
 mr:mb≠rb
 lr:rs.length+l.length<=100000
theorem Ik.past{w w':World}{B rb n:Nat}{r:Bm}{rv:Value}{xs:List Value}(h:Ik w B r)(p:w.ownsRow B 208 4 rv n xs)(t:rb<B)(o:Aj (fun k=>k=rb\/rv.ownBlock=some k) w w'):Ik w' B r:=by
 refine⟨o.own h.1 ?_,fun q l=>o.own (h.2 q l) ?_⟩
 ·rintro g i (rfl|j)
  ·exact Cu h.1 t _ i rfl
  ·exact Gd p h.1 (by decide) g j i
 ·rintro g i (rfl|j)
  ·exact Cu (h.2 q l) t _ i rfl
  ·exact Gd p (h.2 q l) (by decide) g j i
structure JK(w w7:World)(B rb mb bb:Nat)(tb:Option Nat)(l:List Tk)(x:Bh)(dv kv sv rv:Value)(rs:List Bm)(q:Bm)(D:DataW Unit):Prop where
 Bp:Dd w7 B rb rv (.map (some mb)) tb l x dv kv sv
 rules:w7.ownsRow B 208 4 rv (rs.length+1) ((rs++[q]).flatMap Bm.cells)
 Hg:∀r∈rs++[q],Ik w7 B r
 map:w7.ownsMap Tryz.prog 9 (plainElem Tryz.prog 3) mb rs.length D
 An:Ah w7 bb 208 #[.int .i64 q.left.k,.string (str q.left.s),.int .i64 q.left.p,q.v]
 Aw:Aj (fun k=>k=rb\/B<=k) w w7
theorem VZ{w I w6:World}{o:Obj}{B rb mb bb:Nat}{tb:Option Nat}{l rest:List Tk}{x:Bh}{dv kv sv rv bv:Value}{j:List Bm}{D:DataW Unit}{t:Tk}{ss:List GS}{J:Option Addr}{P:Nat}
  (h:DL w B rb mb tb l x dv kv sv rv j D) (p:Hc w rb dv kv sv rv (.map (some mb)) tb bb t bv ss rest I) (hl:rest.length<=l.length)
  (r1:w6.ownsRow B 208 4 (.slice J (j.length+1) P) (j.length+1) (j.flatMap Bm.cells++[.int .i64 t.k,.string (str t.s),.int .i64 t.p,bv]))
  (r3:(I.alloc o).grownBy w6 rv.ownBlock/\((Value.slice J (j.length+1) P).ownBlock=rv.ownBlock\/(Value.slice J (j.length+1) P).ownBlock=some (I.alloc o).heap.size)) :
  JK w (w6.setCell ⟨rb,4,none⟩ (.slice J (j.length+1) P)) B rb mb bb tb rest x dv kv sv (.slice J (j.length+1) P) j ⟨t,bv,ss⟩ D:=by
 have a0:=h.Bp.Ey;have a8:=p.bb;have a3:=h.Bp.bB;have i:Dd I B rb rv (.map (some mb)) tb rest x dv kv sv:=h.Bp.Aw p.Aw (fun _ h=>h) p.AW hl;have a2:I.ownsRow B 208 4 rv j.length (j.flatMap Bm.cells):=p.Aw.own h.rules (Cu h.rules a0);have hX:Aj (fun k=>rv.ownBlock=some k) I w6:=((Aj.refl _ I).alloc o).next (.Cw r3.1);have a1:∀k,rv.ownBlock=some k->B<=k:=fun k hk=>(BU h.rules k hk).1
 have a5:∀k,rv.ownBlock=some k->k<w.heap.size:=fun k hk=>(BU h.rules k hk).2
 have R:Aj (fun k=>k=rb\/rv.ownBlock=some k) I (w6.setCell ⟨rb,4,none⟩ (.slice J (j.length+1) P)):=(hX.mono (fun a4 hi=>.inr hi)).set (p:=⟨rb,4,none⟩) (.inr (.inl rfl)) _;have e1:¬rv.ownBlock=some rb:=fun e=>by have:=a1 _ e;omega
 have a7:Cj (w6.setCell ⟨rb,4,none⟩ (.slice J (j.length+1) P)) rb dv kv sv (.slice J (j.length+1) P) (.map (some mb)) tb rest:=by
  obtain⟨lv,k1,k2,k3⟩:=p.AW.ex;refine⟨⟨lv,by simpa using(hX.An k1 e1).Bn 4 _,k2.Aw R ?_,k3⟩,p.AW.ended,p.AW.ne⟩;intro g C;rw[k3]at C;rintro(rfl|U)
  ·exact p.AW.ne C
  ·have:=h.Bp.Gg g C;have:=a1 g U;omega
 have a6:∀r∈j++[(⟨t,bv,ss⟩:Bm)],Ik I B r:=by
  intro r T;rcases mA.1 T with T|T
  ·exact(h.Hg r T).Aw p.Aw (fun g h1 _ e=>by omega)
  ·rw[mS]at T
   subst T;exact⟨Ig p.own a3,fun q hq=>Ig (p.Hg q hq) a3⟩
 have hT:Aj (fun k=>k=rb\/B<=k) I (w6.setCell ⟨rb,4,none⟩ (.slice J (j.length+1) P)):=R.mono (fun a4 hi=>hi.imp id (a1 a4));refine⟨?_,?_,fun r T=>(a6 r T).past a2 a0 R,?_,?_,(p.Aw.mono (fun _ h=>.inl h)).next hT⟩
 ·refine⟨a7,R.own i.decl ?_,R.own i.marks ?_,R.own i.starts ?_,i.apart,i.Ey,i.Gg,AX i.bB R.size,i.ld,i.lm,i.ls⟩
  ·rintro g C (rfl|U)
   ·exact Cu i.decl a0 _ C rfl
   ·exact Gd a2 i.decl (by decide) g U C
  ·rintro g C (rfl|U)
   ·exact Cu i.marks a0 _ C rfl
   ·exact Gd a2 i.marks (by decide) g U C
  ·rintro g C (rfl|U)
   ·exact Cu i.starts a0 _ C rfl
   ·exact Gd a2 i.starts (by decide) g U C
 ·rw[List.flatMap_append]
  exact EB (by simpa [Bm.cells] using r1) (fun e=>Cu r1 a0 _ e rfl) _
 ·refine D6 (D6 h.map p.Aw h.mr) R ?_
  rintro(e|e)
  ·exact h.mr e
  ·have:=a1 _ e;have:=h.Ow;omega
 ·refine R.An p.An ?_
  rintro(rfl|e)
  ·have:=p.rb;omega
  ·have:=a5 _ e;omega
theorem Aj.of_map{w w':World}{b:Nat}(h:w.grownBy w' (some b)):Aj (·=b) w w':=⟨h.os,h.tape,h.output,h.size,fun k i j=>h.block k i (fun e=>j (by injection e))⟩
theorem JK.last{w T p:World}{B rb mb U:Nat}{tb:Option Nat}{l R:List Tk}{x:Bh}{t I J rv a3:Value}{j:List Bm}{q:Bm}{D:DataW Unit}
  (h0:DL w B rb mb tb R x t I J a3 j D) (hl:l.length<R.length) (h:JK w T B rb mb U tb l x t I J rv j q D) (hg:T.grownBy p (some mb))
  (hm:p.ownsMap Tryz.prog 9 (plainElem Tryz.prog 3) mb (j.length+1) (D.put (B6 q.left.s) (.lit (.int .i64 ((j.map fun r=>r.left.s).count q.left.s+1))))) :
  DL p B rb mb tb l x t I J rv (j++[q]) (D.put (B6 q.left.s) (.lit (.int .i64 ((j.map fun r=>r.left.s).count q.left.s+1))))/\Aj (fun k=>k=rb\/B<=k\/k=mb) w p:=by
 have i:=Aj.of_map hg;have o:=h0.Ow;have a1:=h0.Bp.Ey;have a4:=h0.lr;have a5:=h.Bp.AW.lt;refine⟨⟨?_,?_,fun r hr=>(h.Hg r hr).Aw i (fun g h1 _ e=>by omega),by simpa using hm,?_,o,h0.mr,by simp;omega⟩,(h.Aw.mono (fun a2 C=>C.imp id .inl)).next (i.mono (fun a2 C=>.inr (.inr C)))⟩
 ·exact⟨h.Bp.AW.Aw i (Ne.symm h0.mr) (fun g P e=>by
   subst e;obtain⟨lv,_,k2,k3⟩:=h.Bp.AW.ex;obtain⟨b,off,c,cs,rfl,a0⟩:=k2;rw[<-k3]at P;cases P
   obtain⟨es,clock,hb,_⟩:=h.map;have:=a0.An;unfold Ah at this;rw[hb]at this;cases this),i.own h.Bp.decl (Cu h.Bp.decl o),i.own h.Bp.marks (Cu h.Bp.marks o),i.own h.Bp.starts (Cu h.Bp.starts o),h.Bp.apart,a1,h.Bp.Gg,AX h.Bp.bB i.size,h.Bp.ld,h.Bp.lm,h.Bp.ls⟩
 ·rw[show (j++[q]).length=j.length+1 by simp]
  exact i.own h.rules (Cu h.rules o)
 ·rw[By]
  exact h0.Lb.next (h0.map.tidy IB) q.left.s
end
end Go.Proofs.YthaacmablcpdfaaGreatDoor
