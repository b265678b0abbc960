/- The shelf's contracts of strings. -/
import Derived.Shelf.Strings.Search1
import Derived.Shelf.Strings.Search2
import Derived.Shelf.Strings.Search3
import Derived.Shelf.LaysM
import Derived.Shelf.Strings.Shaped
import Derived.Shelf.Strings.Prefix
import Derived.Test.YthaacmablcpdfaaGreatDoorXac
import Derived.Lib.IndexMore
import Derived.Deep.LoopGhost
import Derived.BigRegion
import Derived.RegionDies
import Derived.Maps.Own
import Derived.Maps.OwnOps
import Derived.Maps.OwnSet
import Derived.Maps.Views
import Derived.StringKeys
set_option linter.all false
set_option maxRecDepth 100000
set_option maxHeartbeats 16000000
namespace Go.Proofs
open Go.Shelf
def Tryz.lays217_ren:Go.Shelf.Ren:=⟨fun|217=>218|266=>232|n=>n,fun|9=>9|5=>5|3=>3|n=>n,fun|n=>n⟩
def Tryz.lays217:Go.Proofs.Lays.n217 Tryz.prog Tryz.lays217_ren:={
 mixed:=by kernel_rfl
 f217:=Tryz.func218.trans (congrArg some (by kernel_rfl))
 f266:=Tryz.func232.trans (congrArg some (by kernel_rfl))
 t3:=Tryz.underlying3
 a3:=Tryz.isAgg3
 z3:=Tryz.sizeOf3
 v3:=Tryz.zeroValue3
 t5:=Tryz.underlying5
 a5:=Tryz.isAgg5
 z5:=Tryz.sizeOf5
 v5:=Tryz.zeroValue5
 t9:=Tryz.underlying9
 a9:=Tryz.isAgg9
 z9:=Tryz.sizeOf9
 v9:=Tryz.zeroValue9}
open Go.RowKit Go.Lib in
def Tryz.stringslite_IndexByte(s:ByteArray)(c:Int)(w:World) :
 Calls Tryz.prog 218 #[.string s,.int .u8 c] w fun e w'=>e=.returned (.int .i64 (Lib.indexByte s.data.toList c.toNat.toUInt8))/\w'=w:=Any.stringslite_IndexByte Tryz.lays217 s c w
def Tryz.lays219_ren:Go.Shelf.Ren:=⟨fun|219=>220|217=>218|225=>233|224=>234|267=>235|266=>232|314=>241|n=>n,fun|9=>9|3=>3|4=>4|5=>5|46=>219|146=>313|51=>305|n=>n,fun|1=>2|n=>n⟩
def Tryz.lays143_ren:Go.Shelf.Ren:=⟨fun|143=>204|219=>220|217=>218|225=>233|224=>234|267=>235|266=>232|314=>241|n=>n,fun|9=>9|3=>3|4=>4|5=>5|46=>219|146=>313|51=>305|n=>n,fun|1=>2|n=>n⟩
def Tryz.lays143:Go.Proofs.Lays.n143 Tryz.prog Tryz.lays143_ren:={
 mixed:=by kernel_rfl
 f143:=Tryz.func204.trans (congrArg some (by kernel_rfl))
 f217:=Tryz.func218.trans (congrArg some (by kernel_rfl))
 f219:=Tryz.func220.trans (congrArg some (by kernel_rfl))
 f224:=Tryz.func234.trans (congrArg some (by kernel_rfl))
 f225:=Tryz.func233.trans (congrArg some (by kernel_rfl))
 f266:=Tryz.func232.trans (congrArg some (by kernel_rfl))
 f267:=Tryz.func235.trans (congrArg some (by kernel_rfl))
 f314:=Tryz.func241.trans (congrArg some (by kernel_rfl))
 t3:=Tryz.underlying3
 a3:=Tryz.isAgg3
 z3:=Tryz.sizeOf3
 v3:=Tryz.zeroValue3
 t4:=Tryz.underlying4
 a4:=Tryz.isAgg4
 z4:=Tryz.sizeOf4
 v4:=Tryz.zeroValue4
 t5:=Tryz.underlying5
 a5:=Tryz.isAgg5
 z5:=Tryz.sizeOf5
 v5:=Tryz.zeroValue5
 t9:=Tryz.underlying9
 a9:=Tryz.isAgg9
 z9:=Tryz.sizeOf9
 v9:=Tryz.zeroValue9
 t46:=Tryz.underlying219
 a46:=Tryz.isAgg219
 z46:=Tryz.sizeOf219
 v46:=Tryz.zeroValue219
 t51:=Tryz.underlying305
 a51:=Tryz.isAgg305
 z51:=Tryz.sizeOf305
 v51:=Tryz.zeroValue305
 t146:=Tryz.underlying313
 a146:=Tryz.isAgg313
 z146:=Tryz.sizeOf313
 v146:=Tryz.zeroValue313
 g1:=by kernel_rfl}
open Go.RowKit Go.Lib in
def Tryz.strings_Index(s sub:ByteArray)(m:Int)(w:World)(hs:s.size<4294967281)(hm:w.cell? ⟨2,0,none⟩=some (.int .i64 m)) :
 Calls Tryz.prog 204 #[.string s,.string sub] w fun e w'=>e=.returned (.int .i64 (Lib.index s.data.toList sub.data.toList))/\w'=w:=Any.strings_Index Tryz.lays143 s sub m w hs hm
def Tryz.lays206_ren:Go.Shelf.Ren:=⟨fun|206=>219|n=>n,fun|9=>9|4=>4|3=>3|n=>n,fun|n=>n⟩
def Tryz.lays99_ren:Go.Shelf.Ren:=⟨fun|99=>203|206=>219|n=>n,fun|9=>9|4=>4|3=>3|n=>n,fun|n=>n⟩
def Tryz.lays99:Go.Proofs.Lays.n99 Tryz.prog Tryz.lays99_ren:={
 mixed:=by kernel_rfl
 f99:=Tryz.func203.trans (congrArg some (by kernel_rfl))
 f206:=Tryz.func219.trans (congrArg some (by kernel_rfl))
 t3:=Tryz.underlying3
 a3:=Tryz.isAgg3
 z3:=Tryz.sizeOf3
 v3:=Tryz.zeroValue3
 t4:=Tryz.underlying4
 a4:=Tryz.isAgg4
 z4:=Tryz.sizeOf4
 v4:=Tryz.zeroValue4
 t9:=Tryz.underlying9
 a9:=Tryz.isAgg9
 z9:=Tryz.sizeOf9
 v9:=Tryz.zeroValue9}
open Go.RowKit Go.Lib in
def Tryz.strings_HasPrefix(s p:ByteArray)(w:World) :
 Calls Tryz.prog 203 #[.string s,.string p] w fun e w'=>e=.returned (.bool (Lib.hasPrefix s.data.toList p.data.toList))/\w'=w:=Any.strings_HasPrefix Tryz.lays99 s p w
end Go.Proofs
namespace Go.Proofs.YthaacmablcpdfaaGreatDoor
open Go.RowKit
variable{w' w2:World}{e:TypeId}{c2 n size sz:Nat}{C I U i:Value}{o:Obj}{T:List TypeId}{X:Nat->Prop}{j:Option Addr}{xs:List Value}
def LX{p:UInt8->Bool}(c:UInt8)(l:List UInt8):Cj p (c::l)=if p c then Cj p l+1 else 0:=by unfold Cj;rw[List.takeWhile_cons];split<;>simp
def Mp(p:UInt8->Bool)(l:List UInt8):Cj p l<=l.length:=(List.takeWhile_sublist p).length_le
theorem eS(c:UInt8)(w:World):() 165 #[.int .u8 c.toNat] w fun e w'=>e=.returned (.bool (CE c))/\w=w':=by
 have i:=Hd (Oy c w);unfold CE;generalize BM c=k at *;go_enter Tryz.func165,Tryz.ntmps165
 cases l:(k==4) with
 | true=>
  have p:((k:Int)==4)=true:=by rw[beq_iff_eq]at l ⊢;omega
  go_wp2_with (go_at_call 164;refine i.mono ?_;rintro e w' ⟨rfl,rfl⟩)
  go_ret;exact⟨rfl,rfl⟩
 | false=>
  have p:((k:Int)==4)=false:=by rw[bN]at l ⊢;omega
  have j:((k:Int)==3)=(k==3):=by rw[Bool.eq_iff_iff,beq_iff_eq,beq_iff_eq];omega
  have o:=Hd j;clear j;go_wp2_with (go_at_call 164;refine i.mono ?_;rintro e w' ⟨rfl,rfl⟩)
  go_ret;refine⟨?_,rfl⟩;rw[<-o.out];rfl
def YF(n:Int):Bool:=decide (0<=Lib.indexByte [32,9,10,13] n.toNat.toUInt8)
def WM:Kx.all (fun c=>YF c.toNat==F8 c)=true:=by kernel_rfl
def ZO(c:UInt8):decide (0<=Lib.indexByte [32,9,10,13] (c.toNat:Int).toNat.toUInt8)=F8 c:=beq_iff_eq.1 (List.all_eq_true.1 WM c (Lr c))
def US(s:ByteArray)(c:Int)(w:World):() 202 #[.string s,.int .u8 c] w fun e w'=>e=.returned (.int .i64 (Lib.indexByte s.data.toList c.toNat.toUInt8))/\w'=w:=by
 have i:=Hd (Tryz.stringslite_IndexByte s c w);go_enter Tryz.func202,Tryz.ntmps202
 go_wp2_with (go_at_call 218;refine i.mono ?_;rintro e w' ⟨rfl,rfl⟩)
 go_ret;exact⟨rfl,rfl⟩
def PB(c:UInt8)(w:World):() 160 #[.int .u8 c.toNat] w fun e w'=>e=.returned (.bool (F8 c))/\w=w':=by
 have i:=Hd (US ⟨#[32,9,10,13]⟩ c.toNat w);have j:=Hd (ZO c);generalize Lib.indexByte (⟨#[32,9,10,13]⟩:ByteArray).data.toList (c.toNat:Int).toNat.toUInt8=k at *;go_enter Tryz.func160,Tryz.ntmps160
 go_wp2_with (go_at_call 202;refine i.mono ?_;rintro e w' ⟨rfl,rfl⟩)
 go_ret;refine⟨?_,rfl⟩;rw[<-j.out];rfl
def Y3(c:UInt8)(w:World):() 166 #[.int .u8 c.toNat] w fun e w'=>e=.returned (.int .i64 (Jp c))/\w=w':=by
 have p:(c=58)=((c.toNat:Int)=58):=by rw[<-UInt8.toNat_inj];show (c.toNat=58)=_;rw[eq_iff_iff];omega
 have o:(c=124)=((c.toNat:Int)=124):=by rw[<-UInt8.toNat_inj];show (c.toNat=124)=_;rw[eq_iff_iff];omega
 have t:(c=59)=((c.toNat:Int)=59):=by rw[<-UInt8.toNat_inj];show (c.toNat=59)=_;rw[eq_iff_iff];omega
 unfold Jp;simp only[p,o,t];clear p o t;generalize (c.toNat:Int)=n;by_cases i:n=58
 ·subst i
  go_enter Tryz.func166,Tryz.ntmps166
  go_wp2;go_ret;exact⟨rfl,rfl⟩
 by_cases j:n=124
 ·subst j
  go_enter Tryz.func166,Tryz.ntmps166
  go_wp2;go_ret;exact⟨rfl,rfl⟩
 by_cases l:n=59
 ·subst l
  go_enter Tryz.func166,Tryz.ntmps166
  go_wp2;go_ret;exact⟨rfl,rfl⟩
 rw[if_neg i,if_neg j,if_neg l];have C:(n==58)=false:=bN.2 i;have I:(n==124)=false:=bN.2 j;have J:(n==59)=false:=bN.2 l;clear i j l;go_enter Tryz.func166,Tryz.ntmps166
 go_wp2;go_ret;exact⟨rfl,rfl⟩
def TD(s:ByteArray)(p k:Nat):Prop:=p+k<=s.size/\Cj F8 (s.data.toList.drop p)=k+Cj F8 (s.data.toList.drop (p+k))
def Yg(s:ByteArray)(R:s.size<=4611686018427387904)(p:Nat)(P:p<=s.size)(w:World):() 161 #[.string s,p,.func (.func 160) #[] #[]] w fun e w'=>e=.returned (.int .i64 (Cj F8 (s.data.toList.drop p)))/\w=w':=by
 go_enter Tryz.func161,Tryz.ntmps161
 go_wp2
 go_loop [7] (fun n=>∃k:Nat,p+k<=s.size/\n=.int .i64 k/\Hid (TD s p k)) (fun n=>s.size-(intOf n).toNat)
 case atStart=>exact⟨0,by omega,rfl,Hd ⟨by omega,by simp⟩⟩
 case round=>
  obtain⟨k,J,rfl,t⟩:=hrel;by_cases I:p+k<s.size
  ·have C:=Hd (Hz s (p+k) I)
   have o:=Hd (PB s[p+k] w);cases j:F8 s[p+k] with
   | true=>
    rw[j]at o;have l:Hid (TD s p (k+1)):=Hd ⟨by omega,by have i:=t.2;rw[C.out,LX,if_pos j]at i;rw[i];show k+(Cj F8 (s.data.toList.drop (p+k+1))+1)=k+1+Cj F8 (s.data.toList.drop (p+(k+1)));rw[Nat.add_assoc p k 1];omega⟩
    clear j;go_wp2_with (go_at_call 160;refine o.mono ?_;rintro e w' ⟨rfl,rfl⟩)
    go_round
    case rel=>exact⟨k+1,by omega,by go_num,l⟩
    case measure=>simp[intOf];omega
   | false=>
    rw[j]at o;have l:Hid (Cj F8 (s.data.toList.drop p)=k):=Hd (by have i:=t.2;rw[C.out,LX,j]at i;simpa using i)
    clear j;go_wp2_with (go_at_call 160;refine o.mono ?_;rintro e w' ⟨rfl,rfl⟩)
    go_ret;exact⟨FW l.symm,rfl⟩
  ·have l:Hid (Cj F8 (s.data.toList.drop p)=k):=Hd (by
    have i:=t.2;rw[show s.data.toList.drop (p+k)=[] from List.drop_of_length_le (by simp;omega)]at i;simpa [Cj] using i)
   go_wp2;go_ret;exact⟨FW l.symm,rfl⟩
def Pu(s:ByteArray)(p k:Nat):Prop:=p+k<=s.size/\Cj CE (s.data.toList.drop p)=k+Cj CE (s.data.toList.drop (p+k))
def Sj(s:ByteArray)(R:s.size<=4611686018427387904)(p:Nat)(P:p<=s.size)(w:World):() 161 #[.string s,p,.func (.func 165) #[] #[]] w fun e w'=>e=.returned (.int .i64 (Cj CE (s.data.toList.drop p)))/\w=w':=by
 go_enter Tryz.func161,Tryz.ntmps161
 go_wp2
 go_loop [7] (fun n=>∃k:Nat,p+k<=s.size/\n=.int .i64 k/\Hid (Pu s p k)) (fun n=>s.size-(intOf n).toNat)
 case atStart=>exact⟨0,by omega,rfl,Hd ⟨by omega,by simp⟩⟩
 case round=>
  obtain⟨k,J,rfl,t⟩:=hrel;by_cases I:p+k<s.size
  ·have C:=Hd (Hz s (p+k) I)
   have o:=Hd (eS s[p+k] w);cases j:CE s[p+k] with
   | true=>
    rw[j]at o;have l:Hid (Pu s p (k+1)):=Hd ⟨by omega,by have i:=t.2;rw[C.out,LX,if_pos j]at i;rw[i];show k+(Cj CE (s.data.toList.drop (p+k+1))+1)=k+1+Cj CE (s.data.toList.drop (p+(k+1)));rw[Nat.add_assoc p k 1];omega⟩
    clear j;go_wp2_with (go_at_call 165;refine o.mono ?_;rintro e w' ⟨rfl,rfl⟩)
    go_round
    case rel=>exact⟨k+1,by omega,by go_num,l⟩
    case measure=>simp[intOf];omega
   | false=>
    rw[j]at o;have l:Hid (Cj CE (s.data.toList.drop p)=k):=Hd (by have i:=t.2;rw[C.out,LX,j]at i;simpa using i)
    clear j;go_wp2_with (go_at_call 165;refine o.mono ?_;rintro e w' ⟨rfl,rfl⟩)
    go_ret;exact⟨FW l.symm,rfl⟩
  ·have l:Hid (Cj CE (s.data.toList.drop p)=k):=Hd (by
    have i:=t.2;rw[show s.data.toList.drop (p+k)=[] from List.drop_of_length_le (by simp;omega)]at i;simpa [Cj] using i)
   go_wp2;go_ret;exact⟨FW l.symm,rfl⟩
def GY(k:Int)(i:(k==0)=false)(p:Int)(w:World):() 67 #[k,p] w fun e w'=>e=.returned (.iface 202 (w,0))/\w'=w.alloc (.cells #[k,p] 204):=by
 go_enter Tryz.func67,Tryz.ntmps67
 go_wp2;go_ret;exact⟨rfl,rfl⟩
def JM(w:World)(v:Value)(f:Bq):Prop:=∃b,v=.iface 202 (.pointer (some ⟨b,0,none⟩))/\Ah w b 204 #[f.1,f.2]
def JM.new(w:World)(e p:Nat):JM (w.alloc (.cells #[e,p] 204)) (.iface 202 (w,0)) (e,p):=⟨_,rfl,Ah.new _ _ _⟩
def EB(w:World)(r:Except Bq (Nat×Nat))(e:Ending)(w':World):Prop:=
 Below w w w'/\match r with
 | .ok (k,n)=>e=.returned (.tuple #[n,.nilIface])
 | .error f=>∃v,e=.returned (.tuple #[.int .i64 0,v])/\JM w' v f
def EB.err(w:World)(e p:Nat):EB w (.error (e,p)) (.returned (.tuple #[.int .i64 0,.iface 202 (w,0)])) (w.alloc (.cells #[e,p] 204)):=
 ⟨AH _ _,_,rfl,.new _ _ _⟩
def EB.KD(w:World)(e p:Nat)(q:Int)(h:q=p):EB w (.error (e,p)) (.returned (.tuple #[.int .i64 0,.iface 202 (w,0)])) (w.alloc (.cells #[e,q] 204)):=by subst h;exact .err w e p
def EB.IH(w:World)(k n:Nat)(q:Int)(h:q=n):EB w (.ok (k,n)) (.returned (.tuple #[q,.nilIface])) w:=by subst h;exact⟨Below.refl _ _,rfl⟩
def eP(s:ByteArray)(p k:Nat)(h:p+(1+k)<s.size):(s.data.toList.drop (p+1))[k]?=some s[p+(1+k)]:=by rw[List.getElem?_drop,Nat.add_assoc];exact get_some s _ h
def Yc(s:ByteArray)(hs:s.size<=4611686018427387904)(p:Nat)(hp:p<s.size)(w:World):() 131 #[.string s,p] w (EB w (JA s.size p (s.data.toList.drop (p+1)))):=by
 have j:=Hd (Ny s hs (p+1) (by omega) w);have hk:Bn (s.data.toList.drop (p+1))<s.size:=by have:=Uz (s.data.toList.drop (p+1));simp only[List.length_drop,G7]at this;omega
 have I:=eP s p (Bn (s.data.toList.drop (p+1)));unfold JA;generalize Bn (s.data.toList.drop (p+1))=k at *;generalize s.data.toList.drop (p+1)=r at *;have J:(p:Int)+1=((p+1:Nat):Int):=by omega
 rw[<-J]at j;have R:(p:Int)+(1+(k:Int))=((p+1+k:Nat):Int):=by omega
 by_cases t:s.size<=p+1+k
 ·rw[if_pos t]
  have q1:(s.size:Int)<=(p:Int)+(1+(k:Int)):=by omega
  clear I t J R;go_enter Tryz.func131,Tryz.ntmps131
  go_wp2_with fail
  refine j.mono ?_;rintro e i ⟨rfl,rfl⟩;go_wp2_with (go_at_call 67;refine(GY _ rfl _ _).mono ?_;rintro e i ⟨rfl,rfl⟩)
  go_ret2
  exact EB.err _ _ _
 rw[if_neg t];have a0:p+(1+k)<s.size:=by omega
 have P:=I a0;rw[P];clear I P J R;have q1:¬(s.size:Int)<=(p:Int)+(1+(k:Int)):=by omega
 have q2:(p:Int)+(1+(k:Int))<(s.size:Int):=by omega
 by_cases l:s[p+(1+k)]=39
 ·have U:((s[p+(1+k)].toNat:Int) != 39)=false:=by rw[l];rfl
  rw[l];clear l;by_cases C:k=0
  ·subst C
   rw[if_pos (.inr rfl)];go_enter Tryz.func131,Tryz.ntmps131
   go_wp2_with fail
   refine j.mono ?_;rintro e i ⟨rfl,rfl⟩;go_wp2_with (go_at_call 67;refine(GY _ rfl _ _).mono ?_;rintro e i ⟨rfl,rfl⟩)
   go_ret2
   exact EB.KD _ 2 (p+1+0) _ (by omega)
  ·rw[if_neg (by rintro(h|h)<;>simp_all)]
   have h7:((1:Int)+(k:Int)==1)=false:=bN.2 (by omega);by_cases o:24<=1+k
   ·rw[if_pos o]
    have T:24<=(1:Int)+(k:Int):=by omega
    clear C o;go_enter Tryz.func131,Tryz.ntmps131
    go_wp2_with fail
    refine j.mono ?_;rintro e i ⟨rfl,rfl⟩;go_wp2_with (go_at_call 67;refine(GY _ rfl _ _).mono ?_;rintro e i ⟨rfl,rfl⟩)
    go_ret2
    exact EB.err _ 5 p
   ·rw[if_neg o]
    have T:¬24<=(1:Int)+(k:Int):=by omega
    clear C o;go_enter Tryz.func131,Tryz.ntmps131
    go_wp2_with fail
    refine j.mono ?_;rintro e i ⟨rfl,rfl⟩;go_wp2
    go_ret2
    exact EB.IH _ 2 (k+2) _ (by omega)
 ·have U:((s[p+(1+k)].toNat:Int) != 39)=true:=by
   rw[bne_iff_ne];intro e;exact l (UInt8.toNat_inj.1 (by show s[p+(1+k)].toNat=39;omega))
  rw[if_pos (.inl (by simpa using l))];clear l;go_enter Tryz.func131,Tryz.ntmps131
  go_wp2_with fail
  refine j.mono ?_;rintro e i ⟨rfl,rfl⟩;go_wp2_with (go_at_call 67;refine(GY _ rfl _ _).mono ?_;rintro e i ⟨rfl,rfl⟩)
  go_ret2
  exact EB.KD _ 2 (p+1+k) _ (by omega)
def Gp(w:World):Prop:=∃m:Int,w.cell? (2,0)=some (.int .i64 m)
def Gp.later{w:World}(h:Gp w)(j:Below w w w'):Gp w':=by obtain⟨m,i⟩:=h;exact⟨m,(j.cell (p:=⟨2,0,none⟩) (World.block_lt_of_cell? w _ i)).trans i⟩
def Pn(s:ByteArray)(p:Nat):(s.extract p s.size).data.toList=s.data.toList.drop p:=by rw[Lib.extract_data];exact Dh (by simp)
theorem index_le(sub:List UInt8):∀(l:List UInt8),Lib.index l sub<=l.length
 | []=>by unfold Lib.index;split<;>simp
 | b::l=>by
  have i:=index_le sub l;unfold Lib.index;split
  ·exact Int.natCast_nonneg _
  ·split
   ·simp;omega
   ·rw[List.length_cons];omega
theorem QV(c d:UInt8)(r:List UInt8):Lib.hasPrefix (c::r) [c,d]=(r.head?==some d):=by
 unfold Lib.hasPrefix;cases r with
 | nil=>simp[List.isPrefixOf]
 | cons a l=>simp[List.isPrefixOf];exact Bool.beq_comm
def fS(s:ByteArray)(p:Nat):(s.data.toList.drop (p+1)).drop 1=s.data.toList.drop (p+2):=by rw[List.drop_drop]
def UN{s:ByteArray}{p:Nat}{c:UInt8}(h:(s.data.toList.drop (p+1)).head?=some c):p+1<s.size:=by rw[List.head?_drop]at h;have:=(sG.1 h).1;simpa using this
def fP(s:ByteArray)(hs:s.size<=8192)(p:Nat)(hp:p<s.size)(P:s[p]=47)(w:World)(j:Gp w):() 162 #[.string s,p] w (EB w (Jw s.size p (s.data.toList.drop (p+1)))):=by
 obtain⟨m,j⟩:=j;have a0:Lib.hasPrefix (s.extract p s.size).data.toList [47,42]=((s.data.toList.drop (p+1)).head?==some 42):=by rw[Pn,Hz s p hp,P,QV]
 have I:=Tryz.strings_HasPrefix (s.extract p s.size) ⟨#[47,42]⟩ w;rw[a0]at I;have l:=Hd I;clear I a0 P;have T:=fS s p;have t:=@UN s p 42;unfold Jw;rw[T];clear T;generalize hr:(s.data.toList.drop (p+1)).head?=a1 at *;clear hr;by_cases o:a1=some 42
 ·subst o
  have a3:=t rfl;clear t;have U:(s.extract (p+2) s.size).data.toList=s.data.toList.drop (p+2):=Pn s (p+2);have C:=Tryz.strings_Index (s.extract (p+2) s.size) ⟨#[42,47]⟩ m w (by rw[ByteArray.size_extract];omega) j;rw[U]at C;have J:=Hd C;clear C U j;rw[if_pos rfl];generalize hk:Lib.index (s.data.toList.drop (p+2)) (⟨#[42,47]⟩:ByteArray).data.toList=k at *;have a2:k<=8192 /\ -1<=k:=by rw[<-hk];have h1:=index_le (⟨#[42,47]⟩:ByteArray).data.toList (s.data.toList.drop (p+2));have h2:=Lib.index_ge (s.data.toList.drop (p+2)) (⟨#[42,47]⟩:ByteArray).data.toList;rw[List.length_drop,G7]at h1;omega
  clear hk;by_cases h0:k<0
  ·rw[if_pos h0]
   go_enter Tryz.func162,Tryz.ntmps162
   go_wp2_with (first
    | (go_at_call 203;refine l.mono ?_;rintro e i ⟨rfl,rfl⟩)
    | (go_at_call 204;refine J.mono ?_;rintro e i ⟨rfl,rfl⟩)
    | (go_at_call 67;refine(GY _ rfl _ _).mono ?_;rintro e i ⟨rfl,rfl⟩))
   go_ret2
   exact EB.err _ 4 _
  ·rw[if_neg h0]
   obtain⟨k1,k2⟩:=a2;go_enter Tryz.func162,Tryz.ntmps162
   go_wp2_with (first
    | (go_at_call 203;refine l.mono ?_;rintro e i ⟨rfl,rfl⟩)
    | (go_at_call 204;refine J.mono ?_;rintro e i ⟨rfl,rfl⟩)
    | (go_at_call 67;refine(GY _ rfl _ _).mono ?_;rintro e i ⟨rfl,rfl⟩))
   go_ret2
   exact EB.IH _ 0 _ _ (by omega)
 ·rw[if_neg o]
  have R:(a1==some 42)=false:=by simpa using o
  rw[R]at l;clear o R t j;go_enter Tryz.func162,Tryz.ntmps162
  go_wp2_with (first
   | (go_at_call 203;refine l.mono ?_;rintro e i ⟨rfl,rfl⟩)
   | (go_at_call 67;refine(GY _ rfl _ _).mono ?_;rintro e i ⟨rfl,rfl⟩))
  go_ret2
  exact EB.err _ 2 p
def Fl(w:World)(r:Except Bq (Nat×Nat))(e:Ending)(w':World):Prop:=
 Below w w w'/\match r with
 | .ok (k,n)=>e=.returned (.tuple #[k,n,.nilIface])
 | .error f=>∃(k:Int) (v:Value),e=.returned (.tuple #[k,.int .i64 0,v])/\JM w' v f
def Fl.KD(w:World)(e p:Nat)(k q:Int)(h:q=p):Fl w (.error (e,p)) (.returned (.tuple #[k,.int .i64 0,.iface 202 (w,0)])) (w.alloc (.cells #[e,q] 204)):=by subst h;exact⟨AH _ _,k,_,rfl,.new _ _ _⟩
def Fl.IH(w:World)(k n:Nat)(q:Int)(h:q=n):Fl w (.ok (k,n)) (.returned (.tuple #[k,q,.nilIface])) w:=by subst h;exact⟨Below.refl _ _,rfl⟩
def Ui(s:ByteArray)(p n:Nat):(s.extract p (p+n)).data.toList=(s.data.toList.drop p).take n:=by rw[Lib.extract_data,Nat.add_sub_cancel_left]
def dW(s:ByteArray)(hs:s.size<=8192)(p:Nat)(hp:p<s.size)(i:s[p]=37)(w:World):() 163 #[.string s,p] w (Fl w (Kq p (s.data.toList.drop (p+1)))):=by
 have U:Lib.hasPrefix (s.extract p s.size).data.toList [37,37]=((s.data.toList.drop (p+1)).head?==some 37):=by rw[Pn,Hz s p hp,i,QV]
 have J:=Tryz.strings_HasPrefix (s.extract p s.size) ⟨#[37,37]⟩ w;rw[U]at J;have o:=Hd J;clear J U i;unfold Kq;by_cases i:(s.data.toList.drop (p+1)).head?=some 37
 ·rw[if_pos i]
  rw[show ((s.data.toList.drop (p+1)).head?==some 37)=true by rw[i];rfl]at o;clear i;go_enter Tryz.func163,Tryz.ntmps163
  go_wp2_with (go_at_call 203;refine o.mono ?_;rintro e l ⟨rfl,rfl⟩)
  go_ret3
  exact Fl.IH _ 6 2 _ rfl
 rw[if_neg i];rw[show ((s.data.toList.drop (p+1)).head?==some 37)=false by simpa using i]at o;clear i;have t:=Hd (Sj s (by omega) (p+1) (by omega) w);have hk:Cj CE (s.data.toList.drop (p+1))<=s.size-(p+1):=by have:=Mp CE (s.data.toList.drop (p+1));simp only[List.length_drop,G7]at this;omega
 have I:=Ui s (p+1) (Cj CE (s.data.toList.drop (p+1)));generalize Cj CE (s.data.toList.drop (p+1))=k at *;rw[<-I];have C:(p:Int)+1=((p+1:Nat):Int):=by omega
 rw[<-C]at t;have b1:(p:Int)+1+(k:Int)<=(s.size:Int):=by omega
 have b2:p+1+k<=s.size:=by omega
 generalize P:s.extract (p+1) (p+1+k)=x at *;have j:x.toList=x.data.toList:=Lib.toList_data x;cases T:(x.toList==[116,111,107,101,110]) with
 | true=>
  rw[if_pos (by rw[<-j];exact beq_iff_eq.1 T)];subst P;clear j I C;go_enter Tryz.func163,Tryz.ntmps163
  go_wp2_with (first
   | (go_at_call 203;refine o.mono ?_;rintro e l ⟨rfl,rfl⟩)
   | (go_at_call 161;refine t.mono ?_;rintro e l ⟨rfl,rfl⟩))
  go_ret3
  exact Fl.IH _ 7 _ _ (by omega)
 | false=>
  rw[if_neg (by rw[<-j];simpa using T)];cases R:(x.toList==[115,116,97,114,116]) with
  | true=>
   rw[if_pos (by rw[<-j];exact beq_iff_eq.1 R)];subst P;clear j I C;go_enter Tryz.func163,Tryz.ntmps163
   go_wp2_with (first
    | (go_at_call 203;refine o.mono ?_;rintro e l ⟨rfl,rfl⟩)
    | (go_at_call 161;refine t.mono ?_;rintro e l ⟨rfl,rfl⟩))
   go_ret3
   exact Fl.IH _ 8 _ _ (by omega)
  | false=>
   rw[if_neg (by rw[<-j];simpa using R)];subst P;clear j I C;go_enter Tryz.func163,Tryz.ntmps163
   go_wp2_with (first
    | (go_at_call 203;refine o.mono ?_;rintro e l ⟨rfl,rfl⟩)
    | (go_at_call 161;refine t.mono ?_;rintro e l ⟨rfl,rfl⟩)
    | (go_at_call 67;refine(GY _ rfl _ _).mono ?_;rintro e l ⟨rfl,rfl⟩))
   go_ret3
   exact Fl.KD _ 2 p _ _ rfl
theorem EB.one{w:World}{r:Except Bq (Nat×Nat)}{e:Ending}(h:EB w r e w'):∃(n:Int) (v:Value),e=.returned (.tuple #[.int .i64 n,v]) /\
  ∀K:Nat,(∀k n,r=.ok (k,n)->k=K)->Fl w r (.returned (.tuple #[.int .i64 K,.int .i64 n,v])) w':=by
 obtain⟨i,h⟩:=h;cases r with
 | error f=>obtain⟨v,rfl,l⟩:=h;exact⟨0,v,rfl,fun K _=>⟨i,K,v,rfl,l⟩⟩
 | ok q=>obtain⟨k,n⟩:=q;exact⟨n,.nilIface,h,fun K j=>by obtain rfl:=j k n rfl;exact⟨i,rfl⟩⟩
def Nq(c:UInt8)(n:Nat)(i:n<256):((c.toNat:Int)==(n:Int))=(c==UInt8.ofNat n):=by rw[Bool.eq_iff_iff,beq_iff_eq,beq_iff_eq,<-UInt8.toNat_inj];rw[UInt8.toNat_ofNat',Nat.mod_eq_of_lt i];omega
def XA{p:Nat}{r:List UInt8}:∀k n,JA sz p r=.ok (k,n)->k=2:=by
 intro k n h;unfold JA at h;split at h;· cases h
 split at h;· cases h
 split at h;· cases h
 injection h with h;exact(Prod.mk.inj h).1.symm
def aM{p:Nat}{r:List UInt8}:∀k n,Jw sz p r=.ok (k,n)->k=0:=by
 intro k n h;unfold Jw at h;split at h
 ·split at h
  ·cases h
  ·injection h with h;exact(Prod.mk.inj h).1.symm
 ·cases h
theorem Y1(s:ByteArray)(hs:s.size<=8192)(p:Nat)(hp:p<s.size)(w:World)(hm:Gp w):() 117 #[.string s,p] w (Fl w (GF s.size p (s.data.toList.drop p))):=by
 have j:=Hd (PB s[p] w);have a2:=Nq s[p] 47 (by decide);have T:=Nq s[p] 39 (by decide);have J:=Nq s[p] 37 (by decide);have hd:=Hz s p hp;unfold GF;rw[hd];simp only;rw[<-hd];clear hd;cases hw:F8 s[p] with
 | true=>
  rw[hw]at j;rw[if_pos rfl];have a1:=Hd (Yg s (by omega) p (by omega) w);clear hw a2 T J;go_enter Tryz.func117,Tryz.ntmps117
  go_wp2_with (first
   | (go_at_call 160;refine j.mono ?_;rintro e i ⟨rfl,rfl⟩)
   | (go_at_call 161;refine a1.mono ?_;rintro e i ⟨rfl,rfl⟩))
  go_ret3
  exact Fl.IH _ 0 _ _ rfl
 | false=>
 rw[hw]at j;rw[if_neg (by decide)];clear hw;by_cases C:s[p]=47
 ·rw[if_pos C]
  have a7:((s[p].toNat:Int)==47)=true:=by rw[C];rfl
  have I:=Hd (fP s hs p hp C w hm);clear a2 T J C;go_enter Tryz.func117,Tryz.ntmps117
  go_wp2_with (first
   | (go_at_call 160;refine j.mono ?_;rintro e i ⟨rfl,rfl⟩)
   | (go_at_call 162;refine I.mono ?_;intro e i l;obtain⟨n,v,rfl,a0⟩:=l.one;clear l;have o:=Hd (a0 0 aM);clear a0))
  go_ret3
  exact o
 rw[if_neg C];have a7:((s[p].toNat:Int)==47)=false:=by rw[show ((s[p].toNat:Int)==47)=_ from a2];exact bN.2 C
 clear a2 C;by_cases P:s[p]=39
 ·rw[if_pos P]
  have a6:((s[p].toNat:Int)==39)=true:=by rw[P];rfl
  have I:=Hd (Yc s (by omega) p hp w);clear T J P;go_enter Tryz.func117,Tryz.ntmps117
  go_wp2_with (first
   | (go_at_call 160;refine j.mono ?_;rintro e i ⟨rfl,rfl⟩)
   | (go_at_call 131;refine I.mono ?_;intro e i l;obtain⟨n,v,rfl,a0⟩:=l.one;clear l;have o:=Hd (a0 2 XA);clear a0))
  go_ret3
  exact o
 rw[if_neg P];have a6:((s[p].toNat:Int)==39)=false:=by rw[show ((s[p].toNat:Int)==39)=_ from T];exact bN.2 P
 clear T P;by_cases t:s[p]=37
 ·rw[if_pos t]
  have a5:((s[p].toNat:Int)==37)=true:=by rw[t];rfl
  have I:=Hd (dW s hs p hp t w);clear J t;generalize Kq p (s.data.toList.drop (p+1))=a8 at *;cases a8 with
  | ok q=>
   obtain⟨k,n⟩:=q;go_enter Tryz.func117,Tryz.ntmps117
   go_wp2_with (first
    | (go_at_call 160;refine j.mono ?_;rintro e i ⟨rfl,rfl⟩)
    | (go_at_call 163;refine I.mono ?_;intro e i l;obtain⟨hb,rfl⟩:=l;have o:=Hd hb;clear hb))
   go_ret3
   exact⟨o,rfl⟩
  | error f=>
   go_enter Tryz.func117,Tryz.ntmps117
   go_wp2_with (first
    | (go_at_call 160;refine j.mono ?_;rintro e i ⟨rfl,rfl⟩)
    | (go_at_call 163;refine I.mono ?_;intro e i l;obtain⟨hb,k,v,rfl,hv⟩:=l;have o:=Hd hb;have HV:=Hd hv;clear hb hv))
   go_ret3
   exact⟨o,_,_,rfl,HV⟩
 rw[if_neg t];have a5:((s[p].toNat:Int)==37)=false:=by rw[show ((s[p].toNat:Int)==37)=_ from J];exact bN.2 t
 clear J t;have R:=Hd (Oy s[p] w);by_cases U:BM s[p]=4
 ·rw[if_pos U]
  rw[U]at R;clear U;have a1:=Hd (Sj s (by omega) p (by omega) w);generalize Cj CE (s.data.toList.drop p)=k at *;by_cases a3:24<k
  ·rw[if_pos a3]
   have a4:(24:Int)<(k:Int):=by omega
   clear a3;go_enter Tryz.func117,Tryz.ntmps117
   go_wp2_with (first
    | (go_at_call 160;refine j.mono ?_;rintro e i ⟨rfl,rfl⟩)
    | (go_at_call 164;refine R.mono ?_;rintro e i ⟨rfl,rfl⟩)
    | (go_at_call 161;refine a1.mono ?_;rintro e i ⟨rfl,rfl⟩)
    | (go_at_call 67;refine(GY _ rfl _ _).mono ?_;rintro e i ⟨rfl,rfl⟩))
   go_ret3
   exact Fl.KD _ 5 p _ _ rfl
  ·rw[if_neg a3]
   have a4:¬(24:Int)<(k:Int):=by omega
   clear a3;go_enter Tryz.func117,Tryz.ntmps117
   go_wp2_with (first
    | (go_at_call 160;refine j.mono ?_;rintro e i ⟨rfl,rfl⟩)
    | (go_at_call 164;refine R.mono ?_;rintro e i ⟨rfl,rfl⟩)
    | (go_at_call 161;refine a1.mono ?_;rintro e i ⟨rfl,rfl⟩))
   go_ret3
   exact Fl.IH _ 1 k _ rfl
 rw[if_neg U];have q4:((BM s[p]:Int)==4)=false:=bN.2 (by omega);clear U;have HS:=Hd (Y3 s[p] w);generalize BM s[p]=cl at *;by_cases h0:Jp s[p]=0
 ·rw[if_neg (by simpa using h0)]
  rw[h0]at HS;clear h0;go_enter Tryz.func117,Tryz.ntmps117
  go_wp2_with (first
   | (go_at_call 160;refine j.mono ?_;rintro e i ⟨rfl,rfl⟩)
   | (go_at_call 164;refine R.mono ?_;rintro e i ⟨rfl,rfl⟩)
   | (go_at_call 166;refine HS.mono ?_;rintro e i ⟨rfl,rfl⟩)
   | (go_at_call 67;refine(GY _ rfl _ _).mono ?_;rintro e i ⟨rfl,rfl⟩))
  go_ret3
  exact Fl.KD _ 2 p _ _ rfl
 ·rw[if_pos h0]
  generalize Jp s[p]=sg at *;have q0:((sg:Int) != 0)=true:=bne_iff_ne.2 (by omega);clear h0;go_enter Tryz.func117,Tryz.ntmps117
  go_wp2_with (first
   | (go_at_call 160;refine j.mono ?_;rintro e i ⟨rfl,rfl⟩)
   | (go_at_call 164;refine R.mono ?_;rintro e i ⟨rfl,rfl⟩)
   | (go_at_call 166;refine HS.mono ?_;rintro e i ⟨rfl,rfl⟩))
  go_ret3
  exact Fl.IH _ sg 1 _ rfl
theorem UH{p:Nat}{l:List UInt8}{k:Nat}(i:GF sz p l=.ok (k,n))(a0:sz=p+l.length):n<=l.length:=by
 unfold GF at i;cases l with
 | nil=>injection i with i;obtain⟨rfl,rfl⟩:=Prod.mk.inj i;simp
 | cons c r=>
  simp only at i;split at i
  ·injection i with i
   obtain⟨rfl,rfl⟩:=Prod.mk.inj i;exact Mp _ _
  split at i
  ·unfold Jw at i
   split at i
   ·rename_i P
    split at i
    ·cases i
    ·rename_i h0
     injection i with i;obtain⟨rfl,rfl⟩:=Prod.mk.inj i;cases r with
     | nil=>cases P
     | cons d t=>
      simp only[List.drop_succ_cons,List.drop_zero]at h0 ⊢;have T:(Lib.index t [42,47]).toNat+2<=t.length:=by
       rcases Lib.index_spec t [42,47] with⟨C,_⟩|⟨a1,C,_,j,_⟩
       ·omega
       ·rcases Lib.occAt_room j with o|o
        ·rw[C];simpa using o
        ·cases o
      simp;omega
   ·cases i
  split at i
  ·unfold JA at i
   split at i;· cases i
   split at i;· cases i
   rename_i j;split at i;· cases i
   injection i with i;obtain⟨rfl,rfl⟩:=Prod.mk.inj i;have I:r[Bn r]?=some 39:=by
    by_cases h:r[Bn r]?=some 39
    ·exact h
    ·exact absurd (.inl h) j
   have R:Bn r<r.length:=(sG.1 I).1;simp;omega
  split at i
  ·have U:=Mp CE r
   unfold Kq at i;split at i
   ·rename_i J
    injection i with i;obtain⟨rfl,rfl⟩:=Prod.mk.inj i;cases r with
    | nil=>cases J
    | cons d t=>simp
   split at i
   ·injection i with i;obtain⟨rfl,rfl⟩:=Prod.mk.inj i;simp;omega
   split at i
   ·injection i with i;obtain⟨rfl,rfl⟩:=Prod.mk.inj i;simp;omega
   ·cases i
  split at i
  ·split at i
   ·cases i
   injection i with i;obtain⟨rfl,rfl⟩:=Prod.mk.inj i;exact Mp _ _
  split at i
  ·injection i with i
   obtain⟨rfl,rfl⟩:=Prod.mk.inj i;simp
  ·cases i
def Tk.cells(t:Tk):List Value:=[.int .i64 t.k,.string (str t.s),.int .i64 t.p]
def Tk.MC(t:Tk):t.cells.length=3:=rfl
def Lo:El Tryz.prog 130 201 3 32:=El.of (z:=.agg #[.int .i64 0,.string ⟨#[]⟩,.int .i64 0]) Tryz.underlying130 (by kernel_rfl) rfl (by decide)
def Le(y:World)(a c:Int)(b:ByteArray):Bf (y.alloc (.cells #[a,.string b,c] 201)) (.slice (y,0) 1 1) 1 3 [.int .i64 a,.string b,.int .i64 c]:=
 Bf.Ap (c:=1) (Ah.new y 201 #[a,.string b,c]) rfl (by simp[Value.oneCell'])
def Uc{B:Nat}{i:World}(h:AJ B T (i.alloc o) w2)(j:B<=i.heap.size):Below B i w2:=
 ((AH i o).mono j).trans (h.below (by simp;omega))
def Q2(i:List Tk):Except Bq (List Tk)->Except Bq (List Tk)
 | .ok j=>.ok (i++j)
 | .error e=>.error e
def Hl(s:ByteArray)(p:Nat)(i:List Tk):Prop:=∃f,s.size-p<f/\Fi s.size (s.size+1) 0 s.data.toList=Q2 i (Fi s.size f p (s.data.toList.drop p))
def Hl.start(s:ByteArray):Hl s 0 []:=⟨s.size+1,by omega,by rw[List.drop_zero];generalize Fi s.size (s.size+1) 0 s.data.toList=r;cases r<;>rfl⟩
theorem Hl.last{s:ByteArray}{p:Nat}{i:List Tk}(h:Hl s p i)(j:p=s.size):Fi s.size (s.size+1) 0 s.data.toList=.ok (i++[⟨0,[],s.size⟩]):=by
 obtain⟨f,l,h⟩:=h;subst j;rw[h,M4];cases f with
 | zero=>omega
 | succ f=>rfl
theorem Hl.step{s:ByteArray}{p:Nat}{o:List Tk}(h:Hl s p o)(T:p<s.size) :
  match GF s.size p (s.data.toList.drop p) with
  | .error e=>Fi s.size (s.size+1) 0 s.data.toList=.error e
  | .ok (k,n)=>0<n/\p+n<=s.size/\Hl s (p+n) (if k=0 then o else o++[⟨k,(s.data.toList.drop p).take n,p⟩]):=by
 obtain⟨f,R,h⟩:=h;have t:(s.data.toList.drop p).length=s.size-p:=by rw[List.length_drop,G7]
 cases f with
 | zero=>omega
 | succ f=>
  have C:(s.data.toList.drop p).isEmpty=false:=by
   cases J:s.data.toList.drop p with
   | nil=>rw[J]at t;simp at t;omega
   | cons a l=>rfl
  cases j:GF s.size p (s.data.toList.drop p) with
  | error e=>simp only;rw[h];simp only[Fi,C,j];rfl
  | ok q=>
   obtain⟨k,n⟩:=q;simp only;have I:=(Ot j).2 (by omega);have P:=UH j (by omega);refine⟨I,by omega,f,by omega,?_⟩;rw[h];simp only[Fi,C,j];rw[List.drop_drop];cases Fi s.size f (p+n) (s.data.toList.drop (p+n)) with
   | error e=>rfl
   | ok U=>
    simp only[Q2];by_cases i:k=0
    ·rw[if_pos i,if_pos i];rfl
    ·rw[if_neg i,if_neg i];simp
def Wn(w:World)(r:Except Bq (List Tk))(e:Ending)(w':World):Prop:=
 Below w w w'/\match r with
 | .ok i=>∃v,e=.returned (.tuple #[v,.nilIface])/\w'.ownsRow w 201 3 v i.length (i.flatMap Tk.cells)
 | .error f=>∃v,e=.returned (.tuple #[.slice none 0 0,v])/\JM w' v f
def Xy(s:ByteArray)(hs:s.size<=4611686018427387904)(w:World)(hm:Gp w):() 65 #[.string s] w (Wn w (tokens s.data.toList)):=by
 unfold tokens;rw[G7];by_cases T:8192<s.size
 ·rw[if_pos T]
  have q1:(8192:Int)<(s.size:Int):=by omega
  clear T;go_enter Tryz.func65,Tryz.ntmps65
  go_wp2;go_step3
  go_wp2_with (go_at_call 67;refine(GY _ rfl _ _).mono ?_;rintro e w' ⟨rfl,rfl⟩)
  rw[Exit.noGoto_ret]
  go_ret2
  exact⟨AH _ _,_,rfl,JM.new w 5 0⟩
 rw[if_neg T];have q1:¬(8192:Int)<(s.size:Int):=by omega
 have aa:s.size<=8192:=by omega
 have HM:=Hd hm;clear T hm;go_enter Tryz.func65,Tryz.ntmps65
 go_wp2;go_step3
 go_wp2;go_step3
 go_wp2;go_loopw [4,5] (fun v a3 wr=>∃(p:Nat) (i:List Tk),p<=s.size/\a3=.int .i64 p/\i.length<=p/\(∃A c,v=.slice A i.length c)/\Hid (wr.ownsRow w 201 3 v i.length (i.flatMap Tk.cells))/\Hid (Below w w wr)/\Hid (Hl s p i)) (fun _ a3 _=>s.size-(intOf a3).toNat)
 case atStart=>exact⟨0,[],AZ _,rfl,AG _,⟨none,0,rfl⟩,Hd (World.ownsRow_nil _ _ _ _),Hd (Below.refl _ _),Hd (Hl.start s)⟩
 case round=>
  obtain⟨p,i,hp,rfl,ad,⟨A,c,rfl⟩,HO,j,HT⟩:=hrel;by_cases a4:p<s.size
  ·have a9:¬(s.size:Int)<=(p:Int):=by omega
   have C:=Hd (Y1 s aa p a4 wr (HM.later j));have I:=HT.step a4;cases U:GF s.size p (s.data.toList.drop p) with
   | error f=>
    rw[U]at C I;have HS:=Hd I;clear I U;go_wp2_with (go_at_call 117;refine C.mono ?_;intro e w1 J;obtain⟨l,k,v,rfl,hv⟩:=J;obtain⟨b,rfl,t⟩:=hv;have o:=Hd l;have HV:=Hd t;clear l t)
    go_ret2
    rw[HS.out];exact⟨j.trans (o.mono j.size),_,rfl,_,rfl,HV⟩
   | ok q=>
    obtain⟨k,n⟩:=q;rw[U]at C I;obtain⟨ae,af,a5⟩:=I;have HN:=Hd a5;have b1:(p:Int)+(n:Int)<=(s.size:Int):=by omega
    have a6:str ((s.data.toList.drop p).take n)=s.extract p (p+n):=by rw[<-Ui,Z6]
    have a8:=Hd a6;clear U a5 a6;by_cases t:k=0
    ·subst t
     have a1:Hid (Hl s (p+n) i):=Hd HN;go_wp2_with (go_at_call 117;refine C.mono ?_;intro e w1 J;obtain⟨l,rfl⟩:=J;have o:=Hd l;clear l)
     go_roundw
     case rel=>exact⟨p+n,i,by omega,by go_num,by omega,⟨_,_,rfl⟩,Hd ((AJ.AK (B:=0) (T:=[]) o).own HO (.inr (by simp))),Hd (j.trans (o.mono j.size)),a1⟩
     case measure=>simp[intOf];omega
    ·have a1:Hid (Hl s (p+n) (i++[⟨k,(s.data.toList.drop p).take n,p⟩])):=Hd (by have:=HN.out;rw[if_neg t]at this;exact this)
     have q0:((k:Int) != 0)=true:=bne_iff_ne.2 (by omega);clear t;go_wp2_with (first
      | (go_at_call 117;refine C.mono ?_;intro e w1 J;obtain⟨l,rfl⟩:=J;have o:=Hd l;have a7:=Hd ((AJ.AK (B:=0) (T:=[]) l).own HO (.inr (by simp)));have ab:=j.size;have ag:=l.size;clear l)
      | (at_builtin;refine DY Lo (.tmp 29) (.tmp 39) rfl rfl (base:=w.heap.size) (n:=i.length) (m:=1) (N:=i.length+1) (xs:=i.flatMap Tk.cells) (news:=[.int .i64 k,.string (s.extract p (p+n)),.int .i64 p]) rfl rfl (a7.alloc _) (Le w1 _ _ _) rfl (by unfold maxLen;omega) (by omega) (by simp;omega) ?_;intro A2 c2 w2 P R r3;have a2:=Hd P;have a0:=Hd (Uc R (by omega));clear P R r3))
     go_roundw
     case rel=>refine⟨p+n,i++[⟨k,(s.data.toList.drop p).take n,p⟩],by omega,by go_num,by simp;omega,⟨A2,c2,by simp⟩,Hd ?_,Hd ((j.trans (o.mono j.size)).trans a0),a1⟩;have:=a2.out;rw[<-a8.out]at this;simpa [Tk.cells] using this
     case measure=>simp[intOf];omega
  ·have a9:(s.size:Int)<=(p:Int):=by omega
   obtain rfl:p=s.size:=by omega
   have HL:=Hd (HT.last rfl);have ab:=j.size;go_wp2_with (at_builtin;refine DY Lo (.tmp 44) (.tmp 48) rfl rfl (base:=w.heap.size) (n:=i.length) (m:=1) (N:=i.length+1) (xs:=i.flatMap Tk.cells) (news:=[.int .i64 0,.string ⟨#[]⟩,.int .i64 s.size]) rfl rfl (HO.alloc _) (Le wr _ _ _) rfl (by unfold maxLen;omega) (by omega) (by simp;omega) ?_;intro A2 c2 w2 P R r3;have a2:=Hd P;have a0:=Hd (Uc R (by omega));clear P R r3)
   rw[Exit.noGoto_ret]
   go_ret2
   rw[HL.out];refine⟨j.trans a0,_,rfl,?_⟩;have:=a2.out;simpa [Tk.cells,str] using this
def B0(f:Bq)(e:Ending):Prop:=e=.panicked [{v:=.iface 134 (.agg #[f.1,f.2]),recovered:=false}]
def Ew(k p:Int)(w:World):() 173 #[k,p] w fun e w'=>e=.panicked [{v:=.iface 134 (.agg #[k,p]),recovered:=false}]/\w=w':=by
 go_enter Tryz.func173,Tryz.ntmps173
 go_wp2;exact⟨rfl,rfl,rfl⟩
def B0.of{k p:Int}{f:Bq}(i:k=f.1)(j:p=f.2):B0 f (.panicked [{v:=.iface 134 (.agg #[k,p]),recovered:=false}]):=by subst i;subst j;rfl
structure Kw(w:World)(b off c:Nat)(cs:Array Value)(l:List Tk):Prop where
 Ap:Ah w b 201 cs
 cap:l.length<=c/\c<=maxLen
 cell:∀k t,l[k]?=some t->cs[off+k*3]?=some (.int .i64 t.k)/\cs[off+k*3+1]?=some (.string (str t.s))/\cs[off+k*3+2]?=some (.int .i64 t.p)
variable{b:Nat}{cs:Array Value}
def Fb(w:World)(v:Value)(l:List Tk):Prop:=∃b off c i,v=.slice (some ⟨b,off,none⟩) l.length c/\Kw w b off c i l
def Fb.AF{w:World}{v:Value}{l:List Tk}(h:Fb w v l)(j:Aj X w w')(o:∀g,v.ownBlock=some g->¬X g):Fb w' v l:=by obtain⟨b,off,c,i,rfl,h⟩:=h;exact⟨b,off,c,i,rfl,j.Ap h.Ap (o b rfl),h.cap,h.cell⟩
def Fb.lt{w:World}{v:Value}{l:List Tk}(h:Fb w v l):∀g,v.ownBlock=some g->g<w.heap.size:=by
 obtain⟨b,off,c,j,rfl,h⟩:=h;intro g i;cases i
 exact h.Ap.lt
def Kw.tail{w:World}{off c:Nat}{t:Tk}{r:List Tk}(h:Kw w b off c cs (t::r)):Kw w b (off+3) (c-1) cs r where
 Ap:=h.Ap
 cap:=by have:=h.cap;simp at this;omega
 cell k u i:=by have:=h.cell (k+1) u i;rw[show off+3+k*3=off+(k+1)*3 by omega];exact this
def Kw.head{w:World}{off c:Nat}{t:Tk}{r:List Tk}(h:Kw w b off c cs (t::r)) :
  w.cell? (b,off)=some (.int .i64 t.k)/\w.cell? (b,off+1)=some (.string (str t.s))/\w.cell? (b,off+2)=some (.int .i64 t.p):=by
 have:=h.cell 0 t rfl;rw[h.Ap.cell,h.Ap.cell,h.Ap.cell];simpa using this
def J6{w:World}{rb:Nat}{j:Value}{t:Tk}{r:List Tk}(h0:w.cell? (rb,0)=some j)(o:Fb w j (t::r))(k:Nat):() 118 #[(rb,0),k] w fun e w'=>e=.returned (.bool (t.k==k))/\w'=w:=by
 obtain⟨b,off,c,C,rfl,h⟩:=o;obtain⟨p,_,_⟩:=h.head;have i:((t.k:Int)==(k:Int))=(t.k==k):=by rw[Bool.eq_iff_iff,beq_iff_eq,beq_iff_eq];omega
 have l:=Hd i;have I:(0:Int)<((t::r).length:Int):=by rw[List.length_cons];omega
 generalize (t::r).length=n at *;clear h i;go_enter Tryz.func118,Tryz.ntmps118
 go_wp2;go_ret;exact⟨Ci l,rfl⟩
theorem QT{w:World}{rb:Nat}{o:Value}{t:Tk}{r:List Tk}(h0:w.cell? (rb,0)=some o)(l:Fb w o (t::r)):() 167 #[(rb,0)] w fun e w'=>e=.returned (.bool (Bi t))/\w'=w:=by
 have i:=Hd (J6 h0 l 1);have p:=Hd (J6 h0 l 2);unfold Bi;clear h0 l;cases j:(t.k==1) with
 | true=>
  rw[j]at i;clear j;go_enter Tryz.func167,Tryz.ntmps167
  go_wp2_with (go_at_call 118;refine i.mono ?_;rintro e w' ⟨rfl,rfl⟩)
  go_ret;exact⟨rfl,rfl⟩
 | false=>
  rw[j]at i;clear j;go_enter Tryz.func167,Tryz.ntmps167
  go_wp2_with fail
  refine i.mono ?_;rintro e w' ⟨rfl,rfl⟩;go_wp2_with fail
  refine p.mono ?_;rintro e w' ⟨rfl,rfl⟩;go_wp2;go_ret;exact⟨by simp,rfl⟩
def RH{w:World}{rb:Nat}{p:Value}{t:Tk}{r:List Tk}(h0:w.cell? (rb,0)=some p)(o:Fb w p (t::r)):() 168 #[(rb,0)] w fun e w'=>B0 (DP (t::r)) e/\w'=w:=by
 have j:=Hd (J6 h0 o 0);obtain⟨b,off,c,C,rfl,h⟩:=o;obtain⟨_,_,c2⟩:=h.head;have I:(0:Int)<((t::r).length:Int):=by rw[List.length_cons];omega
 have l:DP (t::r)=(if t.k=0 then 4 else 3,t.p):=rfl;rw[l];clear h l;generalize (t::r).length=n at *;by_cases i:t.k=0
 ·rw[if_pos i]
  rw[show (t.k==0)=true by simp[i]]at j;clear i;go_enter Tryz.func168,Tryz.ntmps168
  go_wp2_with (first
   | (go_at_call 118;refine j.mono ?_;rintro e w' ⟨rfl,rfl⟩)
   | (go_at_call 173;refine(Ew _ _ _).mono ?_;rintro e w' ⟨rfl,rfl⟩))
  exact⟨rfl,B0.of rfl rfl,rfl⟩
 ·rw[if_neg i]
  rw[show (t.k==0)=false by simp[i]]at j;clear i;go_enter Tryz.func168,Tryz.ntmps168
  go_wp2_with (first
   | (go_at_call 118;refine j.mono ?_;rintro e w' ⟨rfl,rfl⟩)
   | (go_at_call 173;refine(Ew _ _ _).mono ?_;rintro e w' ⟨rfl,rfl⟩))
  exact⟨rfl,B0.of rfl rfl,rfl⟩
def Tk.val(t:Tk):Value:=.agg #[t.k,.string (str t.s),t.p]
def Ms(w:World)(rb:Nat)(j l o p C:Value)(I:Value)(t:Tk)(r:List Tk)(e:Ending)(w':World):Prop:=
 e=.returned t.val/\Aj (·=rb) w w'/\∃i,Ah w' rb 140 #[i,j,l,o,p,C]/\Fb w' i r/\i.ownBlock=I.ownBlock
def OX{w:World}{rb:Nat}{o p J j:Value}{t:Tk}{r:List Tk}(i:Ah w rb 140 #[j,o,p,C,I,J])(hl:Fb w j (t::r))(T:r≠[])(R:j.ownBlock≠some rb):() 120 #[(rb,0)] w (Ms w rb o p C I J j t r):=by
 obtain⟨b,off,c,cs,rfl,h⟩:=hl;obtain⟨c0,c1,c2⟩:=h.head;have a2:b≠rb:=fun e=>R (by rw[e];rfl)
 have a1:=i.cell 0;have a5:=i.frozen 0;simp at a1;have a6:=i.lt;have a7:=h.Ap.lt;have hT:=Hd h;have P:=h.cap;have a8:0<r.length:=List.length_pos_iff.2 T;simp only[List.length_cons]at P;have U:=Hd i;clear h i T R;obtain⟨a4,a3⟩:=P;unfold maxLen at a3;rw[show (t::r).length=r.length+1 from rfl];have q1:¬c=1:=by omega
 have q2:(0:Int)<(r.length:Int)+1:=by omega
 have q3:(1:Int)<=(r.length:Int)+1:=by omega
 have q4:(r.length:Int)+1<=(c:Int):=by omega
 go_enter Tryz.func120,Tryz.ntmps120
 go_wp2;refine bodyPost_ret (v:=t.val) (by simp[results,Tryz.results120,go_sem,Tk.val]) rfl ⟨rfl,?_,?_⟩
 ·exact(((Aj.refl (·=rb) w).set (p:=⟨rb,0,none⟩) (.inr rfl) _).alloc _).alloc _
 ·have a0:=(((U.Be 0 (.slice (b,off+3) r.length (c-1))).alloc (.cells #[t.k,.string (str t.s),t.p] 201)).alloc (.cells #[t.k,.string (str t.s),t.p] 201))
  refine⟨_,by simpa using a0,⟨b,off+3,c-1,cs,rfl,?_⟩,rfl⟩;have l:=hT.tail;exact⟨((l.Ap.BI (p:=⟨rb,0,none⟩) (by simpa using a2) _).alloc _).alloc _,l.cap,l.cell⟩
def jS{w:World}{rb:Nat}{p:Value}{t:Tk}{r:List Tk}(h0:w.cell? (rb,0)=some p)(I:Fb w p (t::r))(k:Nat)(C:(t.k==k)=false):() 169 #[(rb,0),k] w fun e w'=>B0 (DP (t::r)) e/\Below w w w':=by
 have l:=AH w (.cells #[.int .i64 0,.string ⟨#[]⟩,.int .i64 0] 201);have i:=(l.cell (p:=⟨rb,0,none⟩) (World.block_lt_of_cell? w _ h0)).trans h0;have o:Fb (w.alloc (.cells #[.int .i64 0,.string ⟨#[]⟩,.int .i64 0] 201)) p (t::r):=I.AF (X:=fun _=>False) (.AK l) (fun _ _ h=>h);have j:=J6 i o k;rw[C]at j;have J:=Hd j;have P:=Hd (RH i o);clear h0 I i o j C l;go_enter Tryz.func169,Tryz.ntmps169
 go_wp2_with (first
  | (go_at_call 118;refine J.mono ?_;rintro e w' ⟨rfl,rfl⟩)
  | (go_at_call 168;refine P.mono ?_;intro e w' R;obtain⟨rfl,rfl⟩:=R))
 exact⟨rfl,B0.of rfl rfl,AH _ _⟩
def ZN{w:World}{rb:Nat}{f2 f3 f4 f5 o:Value}{t:Tk}{r:List Tk}(I:Ah w rb 140 #[o,U,f2,f3,f4,f5])(l:Fb w o (t::r))(hr:r≠[])(j:o.ownBlock≠some rb)(k:Nat)(hk:(t.k==k)=true):() 169 #[(rb,0),k] w (Ms w rb U f2 f3 f4 f5 o t r):=by
 have C:=AH w (.cells #[.int .i64 0,.string ⟨#[]⟩,.int .i64 0] 201);have J:=I.alloc (.cells #[.int .i64 0,.string ⟨#[]⟩,.int .i64 0] 201);have T:Fb (w.alloc (.cells #[.int .i64 0,.string ⟨#[]⟩,.int .i64 0] 201)) o (t::r):=l.AF (X:=fun _=>False) (.AK C) (fun _ _ h=>h);have p:=J6 (J.cell 0) T k;rw[hk]at p;have H1:=Hd p;have H2:=Hd (OX J T hr j);have a2:=I.lt;have HA:=Hd C;have a1:=Hd l.lt;clear I l hr j J T p hk C;go_enter Tryz.func169,Tryz.ntmps169
 go_wp2_with (first
  | (go_at_call 118;refine H1.mono ?_;rintro e w' ⟨rfl,rfl⟩)
  | (go_at_call 120;refine H2.mono ?_;intro e w1 hx;obtain⟨rfl,R,a0⟩:=hx;have HC:=Hd R;have HX:=Hd a0;have i:=(R.block w.heap.size (by simp) (by omega)).trans (Ah.new w 201 #[.int .i64 0,.string ⟨#[]⟩,.int .i64 0]);have HK:=Hd i;have j0:=Ah.cell i 0;have j1:=Ah.cell i 1;have j2:=Ah.cell i 2;have i0:=Ah.frozen i 0;have i1:=Ah.frozen i 1;have i2:=Ah.frozen i 2;clear R a0 i;simp at j0 j1 j2;unfold Tk.val))
 refine bodyPost_ret (v:=t.val) (by simp[results,Tryz.results169,go_sem,Tk.val,j0,j1,j2]) rfl ⟨rfl,?_,?_⟩
 ·exact(((((Aj.refl (·=rb) w).alloc _).next HC).set (p:=⟨w.heap.size,0,none⟩) (.inl (AG _)) _).set (p:=⟨w.heap.size,1,none⟩) (.inl (AG _)) _).set (p:=⟨w.heap.size,2,none⟩) (.inl (AG _)) _
 ·obtain⟨a3,hb,l,ho⟩:=HX.out
  have j:rb≠w.heap.size:=by omega
  obtain⟨b,off,c,cs,rfl,h⟩:=l;have P:b≠w.heap.size:=by have:=a1 b (ho▸rfl);omega
  refine⟨_,((hb.BI (p:=⟨w.heap.size,0,none⟩) j _).BI (p:=⟨w.heap.size,1,none⟩) j _).BI (p:=⟨w.heap.size,2,none⟩) j _,⟨b,off,c,cs,rfl,?_⟩,ho⟩;exact⟨((h.Ap.BI (p:=⟨w.heap.size,0,none⟩) P _).BI (p:=⟨w.heap.size,1,none⟩) P _).BI (p:=⟨w.heap.size,2,none⟩) P _,h.cap,h.cell⟩
def Il:List Tk->Prop
 | []=>False
 | [t]=>t.k=0
 | t::r=>t.k≠0/\Il r
theorem Il.tail{t:Tk}{r:List Tk}(h:Il (t::r))(i:t.k≠0):Il r/\r≠[]:=by
 cases r with
 | nil=>exact absurd h i
 | cons u r=>exact⟨h.2,by simp⟩
theorem Il.cons{l:List Tk}(h:Il l):∃t r,l=t::r:=by
 cases l with
 | nil=>exact h.elim
 | cons t r=>exact⟨t,r,rfl⟩
def OI{t:Tk}(h:Bi t=true):t.k≠0:=by intro h0;unfold Bi at h;rw[h0]at h;cases h
def Aj.keeps{w a b:World}(h:Aj X w a)(k:AJ w T a b):Aj X w b:=
 ⟨k.os.trans h.os,k.tape.trans h.tape,k.output.trans h.output,AY h.size k.size,fun i j l=>(k.block i (AW j h.size) (.inl j)).trans (h.block i j l)⟩
structure Cr(w:World)(rb:Nat)(f1 f2 f3 f4 f5:Value)(tb:Option Nat)(l:List Tk):Prop where
 ex:∃lv,Ah w rb 140 #[lv,f1,f2,f3,f4,f5]/\Fb w lv l/\lv.ownBlock=tb
 ended:Il l
 ne:tb≠some rb
def Ms.A8{w:World}{rb:Nat}{j l o p:Value}{t:Tk}{r:List Tk}{e:Ending}(h:Ms w rb j l o p C i t r e w')(hr:Il r)(U:i.ownBlock≠some rb) :
  e=.returned t.val/\Aj (·=rb) w w'/\Cr w' rb j l o p C i.ownBlock r:=by
 obtain⟨I,J,a0,P,R,T⟩:=h;exact⟨I,J,⟨a0,P,R,T⟩,hr,U⟩
def Cr.AF{w:World}{rb:Nat}{j o p t:Value}{tb:Option Nat}{l:List Tk}(h:Cr w rb i j o p t tb l)(C:Aj X w w')(I:¬X rb)(J:∀g,tb=some g->¬X g):Cr w' rb i j o p t tb l:=by obtain⟨T,P,R,rfl⟩:=h.ex;exact⟨⟨T,C.Ap P I,R.AF C J,rfl⟩,h.ended,h.ne⟩
def Cr.lt{w:World}{rb:Nat}{j o p t:Value}{tb:Option Nat}{l:List Tk}(h:Cr w rb i j o p t tb l):rb<w.heap.size/\∀g,tb=some g->g<w.heap.size:=by obtain⟨J,C,I,rfl⟩:=h.ex;exact⟨C.lt,I.lt⟩
structure Iq(w:World)(rb:Nat)(f1 f2 f3 f4 f5:Value)(tb:Option Nat)(l:List Tk)(sb:Nat)(p:Nat)(sv:Value)(a rest:List Tk)(wr:World):Prop where
 A8:Cr wr rb f1 f2 f3 f4 f5 tb rest
 Ap:Ah wr sb 211 #[sv,p]
 own:wr.ownsRow w 201 3 sv a.length (a.flatMap Tk.cells)
 AF:Aj (·=rb) w wr
 tw:l.takeWhile Bi=a++rest.takeWhile Bi
 dw:l.dropWhile Bi=rest.dropWhile Bi
variable{p:Value}{a:List Tk}
def cQ{w wr w1:World}{rb:Nat}{J P R T:Value}{tb:Option Nat}{l:List Tk}{i p:Nat}{sv:Value}{r:List Tk}{t:Tk}{C:Option Addr}(a9:rb<w.heap.size)(a7:∀g,tb=some g->g<w.heap.size)(a6:w.heap.size<=i)
  (h:Iq w rb I J P R T tb l i p sv a (t::r) wr) (ht:Bi t=true) (a2:Aj (·=rb) wr w1) (a0:Cr w1 rb I J P R T tb r)
  (ho:w2.ownsRow w 201 3 (.slice C (a.length+1) c2) (a.length+1) (a.flatMap Tk.cells++t.cells)) (o:AJ w [201] (w1.alloc (.cells #[t.k,.string (str t.s),t.p] 201)) w2) :
  Iq w rb I J P R T tb l i p (.slice C (a.length+1) c2) (a++[t]) r (w2.setCell (i,0) (.slice C (a.length+1) c2)):=by
 have a3:rb≠i:=by omega
 have a1:Ah w2 i 211 #[sv,p]:=o.Ap ((a2.Ap h.Ap (Ne.symm a3)).alloc _) (.inr (by decide));have a5:Aj (·=rb) w w2:=((h.AF.next a2).alloc _).keeps o;refine⟨⟨?_,a0.ended,a0.ne⟩,by simpa using a1.Be 0 _,?_,a5.set (p:=⟨i,0,none⟩) (.inl a6) _,?_,?_⟩
 ·obtain⟨lv,k1,k2,k3⟩:=a0.ex
  refine⟨lv,(o.Ap (k1.alloc _) (.inr (by decide))).BI (by simpa using a3) _,?_,k3⟩;obtain⟨b,off,c,cs,rfl,U⟩:=k2;have hb:=a7 b (by rw[<-k3];rfl);exact⟨b,off,c,cs,rfl,(o.Ap (U.Ap.alloc _) (.inl hb)).BI (by simp;omega) _,U.cap,U.cell⟩
 ·have:(a++[t]).length=a.length+1:=by simp
  rw[this,List.flatMap_append];refine Ey (by simpa using ho) ?_ _;intro j;rcases Bk ho with⟨e,_⟩|⟨b,c,e,_,_,_,_,a8,a4⟩
  ·rw[e]at j;cases j
  ·rw[e]at j
   cases j
   exact Ah.Bh (t:=201) a4 a1 (by decide) rfl
 ·rw[h.tw,List.takeWhile_cons,if_pos ht];simp
 ·rw[h.dw,List.dropWhile_cons,if_pos ht]
def BE{w:World}{base:Nat}{v:Value}(h:w.ownsRow base e size v n xs):∃A c,v=.slice A n c:=by
 rcases Bk h with⟨rfl,rfl⟩|⟨b,c,rfl,_⟩
 ·exact⟨none,0,rfl⟩
 ·exact⟨_,c,rfl⟩
def CZ{w:World}{base x:Nat}{v:Value}(h:w.ownsRow base e size v n xs)(o:x<base):∀g,v.ownBlock=some g->¬g=x:=by
 rcases Bk h with⟨rfl,_⟩|⟨b,c,rfl,j,_⟩
 ·intro g i;cases i
 ·intro g i l
  cases i
  subst l;exact absurd o (Nat.not_lt.2 j)
def Iq.len{w wr:World}{rb:Nat}{j o t:Value}{tb:Option Nat}{l:List Tk}{R p:Nat}{T:Value}{rest:List Tk}(h:Iq w rb i j o t C tb l R p T a rest wr):a.length+rest.length=l.length:=by have I:=congrArg List.length h.tw;have U:=congrArg List.length h.dw;have J:=congrArg List.length (List.takeWhile_append_dropWhile (p:=Bi) (l:=l));have P:=congrArg List.length (List.takeWhile_append_dropWhile (p:=Bi) (l:=rest));rw[BO]at I J P;omega
def ON(l:List Tk):(BX l).l=l.takeWhile Bi:=by cases l<;>rfl
def Iq.drew{w wr:World}{rb:Nat}{j o t:Value}{tb:Option Nat}{l:List Tk}{J p:Nat}{P:Value}{rest:List Tk}(h:Iq w rb j o t C I tb l J p P a rest wr):Iq w rb j o t C I tb l J p P a rest wr.drew:=by have i:Aj (fun _=>False) wr wr.drew:=(Aj.refl _ _).drew;exact⟨h.A8.AF i id (fun _ _=>id),i.Ap h.Ap id,i.own h.own (fun _ _=>id),h.AF.drew,h.tw,h.dw⟩
def eQ(w:World)(rb:Nat)(i j o p t:Value)(tb:Option Nat)(l:List Tk)(e:Ending)(w':World):Prop:=
 ∃A c,e=.returned (.agg #[.slice A (BX l).l.length c,.int .i64 (BX l).p])/\Aj (·=rb) w w'/\Cr w' rb i j o p t tb (l.dropWhile Bi)/\w'.ownsRow w 201 3 (.slice A (BX l).l.length c) (BX l).l.length ((BX l).l.flatMap Tk.cells)
def RI{w:World}{rb:Nat}{f1 f2 f3 f4 f5:Value}{tb:Option Nat}{l:List Tk}(h:Cr w rb f1 f2 f3 f4 f5 tb l)(b2:l.length<=100000):() 170 #[(rb,0)] w (eQ w rb f1 f2 f3 f4 f5 tb l):=by
 obtain⟨aa,ae⟩:=h.lt;obtain⟨j,r0,a1⟩:=h.ended.cons;obtain⟨lv,o,p,C⟩:=h.ex;have hA:=AH w (.cells #[.slice none 0 0,.int .i64 0] 211);have a7:=((Aj.refl (·=rb) w).alloc (.cells #[.slice none 0 0,.int .i64 0] 211)).alloc (.cells #[.slice none 0 0,j.p] 211);have hp:(BX l).p=j.p:=by rw[a1];rfl
 have HP:=Hd hp;have ad:Iq w rb f1 f2 f3 f4 f5 tb l (w.heap.size+1) j.p (.slice none 0 0) [] l ((w.alloc (.cells #[.slice none 0 0,.int .i64 0] 211)).alloc (.cells #[.slice none 0 0,j.p] 211)):=by have ax:=((Aj.refl (fun _=>False) w).alloc (.cells #[.slice none 0 0,.int .i64 0] 211)).alloc (.cells #[.slice none 0 0,j.p] 211);refine⟨h.AF ax id (fun _ _ h=>h),?_,World.ownsRow_nil _ _ _ _,a7,rfl,rfl⟩;have:=Ah.new (w.alloc (.cells #[.slice none 0 0,.int .i64 0] 211)) 211 #[.slice none 0 0,j.p];rwa [World.size_alloc]at this
 have au:=Hd ad;have an:=Hd ((Ah.new w 211 #[.slice none 0 0,.int .i64 0]).alloc (.cells #[.slice none 0 0,j.p] 211));have aw:=o.cell 0;simp at aw;obtain⟨b,off,c,cs,rfl,a2⟩:=p;rw[a1]at a2;obtain⟨_,_,c2⟩:=a2.head;have b4:=a2.Ap.lt;have b3:(0:Int)<(l.length:Int):=by rw[a1,List.length_cons];omega
 clear hA a7 h o a2 a1 C hp ad;go_enter Tryz.func170,Tryz.ntmps170
 go_wp2;generalize b5:w.heap.size+1=sb at *;go_loopg [] l.length (fun n wr=>∃sv a rest,n=rest.length/\Hid (Iq w rb f1 f2 f3 f4 f5 tb l sb j.p sv a rest wr)/\Hid (Ah wr w.heap.size 211 #[.slice none 0 0,.int .i64 0]))
 case atStart=>exact⟨_,[],l,rfl,au,an⟩
 case round=>
  obtain⟨sv,a,rest,rfl,i,R⟩:=hrel;obtain⟨t,r,rfl⟩:=i.A8.ended.cons;have a8:=i.len;obtain⟨af,o,p,C⟩:=i.A8.ex;have h0:=o.cell 0;simp at h0;have H1:=Hd (QT h0 p);obtain⟨A,c,rfl⟩:=BE i.own;have b0:=i.Ap.cell 0;have b1:=i.Ap.cell 1;have u0:=i.Ap.frozen 0;have ag:=R.cell 0;have ah:=R.cell 1;have v0:=R.frozen 0;have v1:=R.frozen 1;simp at b0 b1 ag ah;have b6:=i.Ap.lt;cases I:Bi t with
  | true=>
   rw[I]at H1;have HD:=Hd i.drew;have ao:=Hd (((Aj.refl (fun _=>False) wr).drew).Ap R id);clear o p C;obtain⟨af,o,p,C⟩:=HD.A8.ex;have a5:=i.A8.ended.tail (OI I);have a4:af.ownBlock≠some rb:=by rw[C];exact i.A8.ne
   have H2:=Hd ((OX o p a5.2 a4).mono fun e P hx=>(by have:=hx.A8 a5.1 a4;rw[C]at this;exact this:e=.returned (.agg #[t.k,.string (str t.s),t.p])/\Aj (·=rb) wr.drew P/\Cr P rb f1 f2 f3 f4 f5 tb r));have av:=Hd I;have HA:a.length+r.length<100000:=by simp at a8;omega
   clear o p h0 C I a5 a8 a4;go_wp2_with (go_at_call 167;refine H1.mono ?_;rintro e w' ⟨rfl,J⟩;replace J:=J.symm;subst J)
   go_region_law (first
    | (
      refine Fh Lo (.tmp 15) (.tmp 18) ?_ ?_ (base:=w.heap.size) (n:=a.length) (m:=1) (N:=a.length+1) (v:=.slice A a.length c) (src:=.slice (P,0) 1 1) (xs:=a.flatMap Tk.cells) (news:=[.int .i64 t.k,.string (str t.s),.int .i64 t.p]) ?_ ?_ ?_ ?_ ?_ ?_ ?_ ?_ ?_
      ·rfl
      ·rfl
      ·rfl
      ·rfl
      ·exact ak.alloc _
      ·exact Le P _ _ _
      ·rfl
      ·unfold maxLen;omega
      ·omega
      ·simp;omega
      intro A2 c2 w2 r1 r2 r3;have HF:=Hd (cQ aa ae (by omega) HD av ai ar r1 r2);have a3:=r2.Ap (aj.alloc _) (.inr (by decide));have z0:=a3.cell 0;have z1:=a3.frozen 0;simp at z0;have aq:=Hd ((r2.Ap (al.alloc _) (.inr (by decide))).BI (p:=⟨sb,0,none⟩) (by simp;omega) (.slice A2 (a.length+1) c2));clear r1 r2 r3 a3)
    | (
      go_simp;go_at_call 120;refine H2.mono ?_;intro e P hx;obtain⟨rfl,T,ab⟩:=hx;have ai:=Hd T;have ar:=Hd ab;have ak:=Hd (T.own HD.own (CZ HD.own aa));have hk:=T.Ap HD.Ap (by omega);have b0:=hk.cell 0;have u0:=hk.frozen 0;simp at b0;have aj:=Hd hk;have al:=Hd (T.Ap ao (by omega));have b7:wr.heap.size<=P.heap.size:=T.size;have b8:sb<P.heap.size:=by omega
      clear T ab hk))
   all_goals go_wp2
   all_goals go_roundg r.length
   all_goals first
    | (case measure=>simp)
    | (case rel=>exact⟨_,a++[t],r,rfl,HF,aq⟩)
    | skip
  | false=>
   rw[I]at H1;clear o p h0;go_wp2_with (go_at_call 167;refine H1.mono ?_;rintro e w' ⟨rfl,J⟩;replace J:=J.symm;subst J)
   refine bodyPost_ret (v:=.agg #[.slice A a.length c,j.p]) (by simp[results,Tryz.results170,go_sem,ag,ah]) rfl ?_;have a0:=i.out;have a6:=a0.tw;rw[List.takeWhile_cons,if_neg (by rw[I];simp),List.append_nil]at a6;have a9:=a0.dw;rw[List.dropWhile_cons,if_neg (by rw[I];simp)]at a9;have hX:Aj (·=w.heap.size) wr ((wr.setCell (w,0) (.slice A a.length c)).setCell (w,1) j.p):=((Aj.refl (·=w.heap.size) wr).set (p:=⟨w.heap.size,0,none⟩) (.inr rfl) _).set (p:=⟨w.heap.size,1,none⟩) (.inr rfl) _;refine⟨A,c,?_,(a0.AF.set (p:=⟨w.heap.size,0,none⟩) (.inl (AG _)) _).set (p:=⟨w.heap.size,1,none⟩) (.inl (AG _)) _,?_,?_⟩
   ·rw[ON,a6,HP.out]
   ·rw[a9]
    exact a0.A8.AF hX (by omega) (fun g U=>by have:=ae g U;omega)
   ·rw[ON,a6]
    refine hX.own a0.own ?_;intro g U he;rcases Bk a0.own with⟨e,_⟩|⟨b,c,e,_,_,_,_,az,ay⟩
    ·rw[e]at U;cases U
    ·rw[e]at U
     cases U
     exact Ah.Bh (t:=201) ay R (by decide) he
def Se:El Tryz.prog 44 3 1 8:=El.of (z:=.int .i64 0) Tryz.underlying44 (by kernel_rfl) rfl (by decide)
def QW(y:World)(a:Int):Bf (y.alloc (.cells #[a] 3)) (.slice (y,0) 1 1) 1 1 [.int .i64 a]:=
 Bf.Ap (c:=1) (Ah.new y 3 #[a]) rfl (by simp[Value.oneCell'])
def Aj.CA{w:World}{v:Value}(h:w.grownBy w' v.ownBlock):Aj (fun k=>v.ownBlock=some k) w w':=⟨h.os,h.tape,h.output,h.size,fun k i j=>h.block k i (fun e=>j e.symm)⟩
def Gs{w:World}{t C:Nat}{i j:TypeId}{s1 s2 U n2:Nat}{v1:Value}{a0 a1:List Value}(I:w.ownsRow t i s1 v1 U a0)(J:w.ownsRow C j s2 p n2 a1)(T:i≠j):∀g,v1.ownBlock=some g->¬p.ownBlock=some g:=by
 intro g l o;rcases Bk I with⟨rfl,_⟩|⟨b,c,rfl,_,_,_,_,a2,P⟩
 ·cases l
 ·cases l
  rcases Bk J with⟨rfl,_⟩|⟨b2,c2,rfl,_,_,_,_,a3,R⟩
  ·cases o
  ·cases o
   exact Ah.Bh (t:=i) P R T rfl
def B7{w:World}{B:Nat}{s:Nat}{v:Value}(h:w.ownsRow B e s v n xs):∀g,v.ownBlock=some g->B<=g/\g<w.heap.size:=by
 intro g i;rcases Bk h with⟨rfl,_⟩|⟨b,c,rfl,j,l,_⟩
 ·cases i
 ·cases i
  exact⟨j,l⟩
def Mark(m:Nat):Value:=.int .i64 m
structure Da(w:World)(B rb:Nat)(f4 f5:Value)(tb:Option Nat)(l:List Tk)(x:Bo)(dv kv sv:Value):Prop where
 A8:Cr w rb dv kv sv f4 f5 tb l
 decl:w.ownsRow B 201 3 dv x.decl.length (x.decl.flatMap Tk.cells)
 marks:w.ownsRow B 3 1 kv x.marks.length (x.marks.map Mark)
 starts:w.ownsRow B 201 3 sv x.starts.length (x.starts.flatMap Tk.cells)
 apart:∀g,dv.ownBlock=some g->¬sv.ownBlock=some g
 EE:rb<B
 Gn:∀g,tb=some g->g<B
 bB:B<=w.heap.size
 ld:x.decl.length+l.length<=100000
 lm:x.marks.length+l.length<=100000
 ls:x.starts.length+l.length<=100000
def Da.AF{w:World}{B rb:Nat}{t:Value}{tb:Option Nat}{l P:List Tk}{x:Bo}{J R:Value}(h:Da w B rb t C tb l x p J R)(o:Aj X w w')(I:∀k,X k->k=rb)(T:Cr w' rb p J R t C tb P)(U:P.length<=l.length):Da w' B rb t C tb P x p J R where
 A8:=T
 decl:=o.own h.decl (fun g j i=>CZ h.decl h.EE g j (I g i))
 marks:=o.own h.marks (fun g j i=>CZ h.marks h.EE g j (I g i))
 starts:=o.own h.starts (fun g j i=>CZ h.starts h.EE g j (I g i))
 apart:=h.apart
 EE:=h.EE
 Gn:=h.Gn
 bB:=AY h.bB o.size
 ld:=by have:=h.ld;omega
 lm:=by have:=h.lm;omega
 ls:=by have:=h.ls;omega
def aL{w:World}{B rb:Nat}{T:Value}{tb:Option Nat}{l:List Tk}{x:Bo}{kv sv:Value}{N:Nat}{t:Tk}(h:Da w B rb T U tb l x p kv sv)(hl:x.decl.length+1+l.length<=100000)(hN:N=x.decl.length+1)
  (ho:w2.ownsRow B 201 3 (.slice j N c2) N (x.decl.flatMap Tk.cells++t.cells)) (hg:(w.alloc o).grownBy w2 p.ownBlock/\((Value.slice j N c2).ownBlock=p.ownBlock\/(Value.slice j N c2).ownBlock=some (w.alloc o).heap.size)) :
  Da (w2.setCell (rb,1) (.slice j N c2)) B rb T U tb l {x with decl:=x.decl++[t]} (.slice j N c2) kv sv/\Aj (fun k=>k=rb\/B<=k) w (w2.setCell (rb,1) (.slice j N c2)):=by
 have hX:Aj (fun k=>p.ownBlock=some k) w w2:=((Aj.refl _ w).alloc o).next (.CA hg.1);have P:∀k,p.ownBlock=some k->B<=k:=fun k hk=>(B7 h.decl k hk).1
 have C:Aj (fun k=>k=rb\/p.ownBlock=some k) w (w2.setCell (rb,1) (.slice j N c2)):=(hX.mono (fun a1 J=>.inr J)).set (p:=⟨rb,1,none⟩) (.inr (.inl rfl)) _;have R:=h.EE;obtain⟨lv,k1,k2,k3⟩:=h.A8.ex;have e1:¬p.ownBlock=some rb:=fun e=>by have:=P _ e;omega
 refine⟨⟨⟨⟨lv,by simpa using(hX.Ap k1 e1).Be 1 _,k2.AF C ?_,k3⟩,h.A8.ended,h.A8.ne⟩,?d,?k,?s,?_,h.EE,h.Gn,AY h.bB C.size,?_,?_,?_⟩,C.mono ?_⟩
 ·intro g i
  rw[k3]at i;rintro(rfl|I)
  ·exact h.A8.ne i
  ·have:=h.Gn g i;have:=P g I;omega
 case d=>rw[show (x.decl++[t]).length=N by rw[hN];simp,List.flatMap_append];exact Ey (by simpa [Tk.cells] using ho) (fun e=>CZ ho R _ e rfl) _
 case k=>
  refine C.own h.marks ?_;rintro g i (rfl|I)
  ·exact CZ h.marks R _ i rfl
  ·exact Gs h.decl h.marks (by decide) g I i
 case s=>
  refine C.own h.starts ?_;rintro g i (rfl|I)
  ·exact CZ h.starts R _ i rfl
  ·exact h.apart g I i
 ·intro g i a0
  rcases hg.2 with e|e
  ·rw[e]at i;exact h.apart g i a0
  ·rw[e]at i;cases i;have:=(B7 h.starts _ a0).2;simp at this;omega
 ·have:=h.ld;simp at this ⊢;omega
 ·have:=h.lm;simp at this ⊢;omega
 ·have:=h.ls;simp at this ⊢;omega
 ·rintro a1 (J|J)
  ·exact .inl J
  ·exact .inr (P a1 J)
def bY{w:World}{B rb:Nat}{T:Value}{tb:Option Nat}{l:List Tk}{x:Bo}{R sv:Value}{N:Nat}{m:Nat}(h:Da w B rb T U tb l x R p sv)(hl:x.marks.length+1+l.length<=100000)(hN:N=x.marks.length+1)
  (ho:w2.ownsRow B 3 1 (.slice j N c2) N (x.marks.map Mark++[Mark m])) (hg:(w.alloc o).grownBy w2 p.ownBlock/\((Value.slice j N c2).ownBlock=p.ownBlock\/(Value.slice j N c2).ownBlock=some (w.alloc o).heap.size)) :
  Da (w2.setCell (rb,2) (.slice j N c2)) B rb T U tb l {x with marks:=x.marks++[m]} R (.slice j N c2) sv/\Aj (fun k=>k=rb\/B<=k) w (w2.setCell (rb,2) (.slice j N c2)):=by
 have hX:Aj (fun k=>p.ownBlock=some k) w w2:=((Aj.refl _ w).alloc o).next (.CA hg.1);have J:∀k,p.ownBlock=some k->B<=k:=fun k hk=>(B7 h.marks k hk).1
 have t:Aj (fun k=>k=rb\/p.ownBlock=some k) w (w2.setCell (rb,2) (.slice j N c2)):=(hX.mono (fun a0 I=>.inr I)).set (p:=⟨rb,2,none⟩) (.inr (.inl rfl)) _;have P:=h.EE;obtain⟨lv,k1,k2,k3⟩:=h.A8.ex;have e1:¬p.ownBlock=some rb:=fun e=>by have:=J _ e;omega
 refine⟨⟨⟨⟨lv,by simpa using(hX.Ap k1 e1).Be 2 _,k2.AF t ?_,k3⟩,h.A8.ended,h.A8.ne⟩,?d,?k,?s,?_,h.EE,h.Gn,AY h.bB t.size,?_,?_,?_⟩,t.mono ?_⟩
 ·intro g i
  rw[k3]at i;rintro(rfl|C)
  ·exact h.A8.ne i
  ·have:=h.Gn g i;have:=J g C;omega
 case k=>rw[show (x.marks++[m]).length=N by rw[hN];simp,Bw];exact Ey (by simpa [Mark] using ho) (fun e=>CZ ho P _ e rfl) _
 case d=>
  refine t.own h.decl ?_;rintro g i (rfl|C)
  ·exact CZ h.decl P _ i rfl
  ·exact Gs h.marks h.decl (by decide) g C i
 case s=>
  refine t.own h.starts ?_;rintro g i (rfl|C)
  ·exact CZ h.starts P _ i rfl
  ·exact Gs h.marks h.starts (by decide) g C i
 ·exact h.apart
 ·have:=h.ld;simp at this ⊢;omega
 ·have:=h.lm;simp at this ⊢;omega
 ·have:=h.ls;simp at this ⊢;omega
 ·rintro a0 (I|I)
  ·exact .inl I
  ·exact .inr (J a0 I)
def Vi{w:World}{B rb:Nat}{f4 f5:Value}{tb:Option Nat}{l:List Tk}{x:Bo}{kv:Value}{N:Nat}{t:Tk}(h:Da w B rb f4 f5 tb l x U kv p)(hl:x.starts.length+1+l.length<=100000)(hN:N=x.starts.length+1)
  (ho:w2.ownsRow B 201 3 (.slice j N c2) N (x.starts.flatMap Tk.cells++t.cells)) (hg:(w.alloc o).grownBy w2 p.ownBlock/\((Value.slice j N c2).ownBlock=p.ownBlock\/(Value.slice j N c2).ownBlock=some (w.alloc o).heap.size)) :
  Da (w2.setCell (rb,3) (.slice j N c2)) B rb f4 f5 tb l {x with starts:=x.starts++[t]} U kv (.slice j N c2)/\Aj (fun k=>k=rb\/B<=k) w (w2.setCell (rb,3) (.slice j N c2)):=by
 have hX:Aj (fun k=>p.ownBlock=some k) w w2:=((Aj.refl _ w).alloc o).next (.CA hg.1);have R:∀k,p.ownBlock=some k->B<=k:=fun k hk=>(B7 h.starts k hk).1
 have C:Aj (fun k=>k=rb\/p.ownBlock=some k) w (w2.setCell (rb,3) (.slice j N c2)):=(hX.mono (fun a0 J=>.inr J)).set (p:=⟨rb,3,none⟩) (.inr (.inl rfl)) _;have T:=h.EE;obtain⟨lv,k1,k2,k3⟩:=h.A8.ex;have e1:¬p.ownBlock=some rb:=fun e=>by have:=R _ e;omega
 refine⟨⟨⟨⟨lv,by simpa using(hX.Ap k1 e1).Be 3 _,k2.AF C ?_,k3⟩,h.A8.ended,h.A8.ne⟩,?d,?k,?s,?_,h.EE,h.Gn,AY h.bB C.size,?_,?_,?_⟩,C.mono ?_⟩
 ·intro g i
  rw[k3]at i;rintro(rfl|I)
  ·exact h.A8.ne i
  ·have:=h.Gn g i;have:=R g I;omega
 case s=>rw[show (x.starts++[t]).length=N by rw[hN];simp,List.flatMap_append];exact Ey (by simpa [Tk.cells] using ho) (fun e=>CZ ho T _ e rfl) _
 case d=>
  refine C.own h.decl ?_;rintro g i (rfl|I)
  ·exact CZ h.decl T _ i rfl
  ·exact h.apart g i I
 case k=>
  refine C.own h.marks ?_;rintro g i (rfl|I)
  ·exact CZ h.marks T _ i rfl
  ·exact Gs h.starts h.marks (by decide) g I i
 ·intro g i P
  rcases hg.2 with e|e
  ·rw[e]at P;exact h.apart g i P
  ·rw[e]at P;cases P;have:=(B7 h.decl _ i).2;simp at this;omega
 ·have:=h.ld;simp at this ⊢;omega
 ·have:=h.lm;simp at this ⊢;omega
 ·have:=h.ls;simp at this ⊢;omega
 ·rintro a0 (J|J)
  ·exact .inl J
  ·exact .inr (R a0 J)
def Qk(w:World)(rb:Nat)(f1 f2 f3 f4 f5:Value)(tb:Option Nat)(t:Tk)(r:List Tk)(e:Ending)(w':World):Prop:=
 e=.returned (.agg #[t.k,.string (str t.s),t.p])/\Aj (·=rb) w w'/\Cr w' rb f1 f2 f3 f4 f5 tb r
namespace Cr
variable {w:World} {rb:Nat} {f1 f2 f3 f4 f5:Value} {tb:Option Nat} {t:Tk} {r l:List Tk}
def is(h:Cr w rb f1 f2 f3 f4 f5 tb (t::r))(k:Nat)(K:Int)(p:K=(k:Int)):() 118 #[(rb,0),K] w fun e w'=>e=.returned (.bool (t.k==k))/\w=w':=by subst p;obtain⟨I,o,C,_⟩:=h.ex;exact(J6 (o.cell 0) C k).mono fun e w' ⟨i,j⟩=>⟨i,j.symm⟩
def sym(h:Cr w rb f1 f2 f3 f4 f5 tb (t::r)):() 167 #[(rb,0)] w fun e w'=>e=.returned (.bool (Bi t))/\w=w':=by obtain⟨C,o,p,_⟩:=h.ex;exact(QT (o.cell 0) p).mono fun e w' ⟨i,j⟩=>⟨i,j.symm⟩
def bad(h:Cr w rb f1 f2 f3 f4 f5 tb (t::r)):() 168 #[(rb,0)] w fun e w'=>e=.panicked [{v:=.iface 134 (.agg #[.int .i64 (DP (t::r)).1,.int .i64 (DP (t::r)).2]),recovered:=false}]/\w=w':=by obtain⟨C,o,p,_⟩:=h.ex;exact(RH (o.cell 0) p).mono fun e w' ⟨i,j⟩=>⟨i,j.symm⟩
def take(h:Cr w rb f1 f2 f3 f4 f5 tb (t::r))(I:t.k≠0):() 120 #[(rb,0)] w (Qk w rb f1 f2 f3 f4 f5 tb t r):=by
 obtain⟨R,C,J,j⟩:=h.ex;obtain⟨o,p⟩:=h.ended.tail I;have i:R.ownBlock≠some rb:=by rw[j];exact h.ne
 refine(OX C J p i).mono fun e T P=>?_
 have:=P.A8 o i;rw[j]at this;exact this
def want(h:Cr w rb f1 f2 f3 f4 f5 tb (t::r))(k:Nat)(K:Int)(J:K=(k:Int))(i:t.k=k)(h0:k≠0):() 169 #[(rb,0),K] w (Qk w rb f1 f2 f3 f4 f5 tb t r):=by
 subst J;obtain⟨T,I,P,o⟩:=h.ex;obtain⟨p,C⟩:=h.ended.tail (i▸h0);have j:T.ownBlock≠some rb:=by rw[o];exact h.ne
 refine(ZN I P C j k (by simp[i])).mono fun e U R=>?_
 have:=R.A8 p j;rw[o]at this;exact this
def Mn(h:Cr w rb f1 f2 f3 f4 f5 tb (t::r))(k:Nat)(K:Int)(j:K=(k:Int))(o:t.k≠k):() 169 #[(rb,0),K] w fun e w'=>e=.panicked [{v:=.iface 134 (.agg #[.int .i64 (DP (t::r)).1,.int .i64 (DP (t::r)).2]),recovered:=false}]/\Below w w w':=by subst j;obtain⟨C,i,p,_⟩:=h.ex;exact jS (i.cell 0) p k (by simp[o])
def drew(h:Cr w rb f1 f2 f3 f4 f5 tb l):Cr w.drew rb f1 f2 f3 f4 f5 tb l:=h.AF ((Aj.refl (fun _=>False) w).drew) id (fun _ _=>id)
def cells(h:Cr w rb f1 f2 f3 f4 f5 tb l):w.cell? (rb,1)=some f1/\w.cell? (rb,2)=some f2/\w.cell? (rb,3)=some f3/\w.cell? (rb,4)=some f4/\w.cell? (rb,5)=some f5/\rb<w.heap.size:=by obtain⟨o,i,j,_⟩:=h.ex;exact⟨i.cell 1,i.cell 2,i.cell 3,i.cell 4,i.cell 5,i.lt⟩
def frozen(h:Cr w rb f1 f2 f3 f4 f5 tb l)(k:Nat):w.frozen? (rb,k)=false:=by obtain⟨o,i,j,_⟩:=h.ex;exact i.frozen k
end Cr
def Da.drew{w:World}{B rb:Nat}{f4 f5:Value}{tb:Option Nat}{l:List Tk}{x:Bo}{j o:Value}(h:Da w B rb f4 f5 tb l x i j o):Da w.drew B rb f4 f5 tb l x i j o:=
 h.AF ((Aj.refl (fun _=>False) w).drew) (fun _ h=>h.elim) h.A8.drew (AG _)
def Da.ex{w:World}{B rb:Nat}{f4 f5:Value}{tb:Option Nat}{l:List Tk}{x:Bo}(h:Da w B rb f4 f5 tb l x p C I):∃i c1 j c2 o c3,p=.slice i x.decl.length c1/\C=.slice j x.marks.length c2/\I=.slice o x.starts.length c3:=by obtain⟨i,c1,J⟩:=BE h.decl;obtain⟨j,c2,P⟩:=BE h.marks;obtain⟨o,c3,R⟩:=BE h.starts;exact⟨i,c1,j,c2,o,c3,J,P,R⟩
def Da.grown{w:World}{B rb:Nat}{f4 f5 v:Value}{tb:Option Nat}{l:List Tk}{x:Bo}(h:Da w B rb f4 f5 tb l x i p C)(j:∀k,v.ownBlock=some k->B<=k/\k<w.heap.size)(I:(w.alloc o).grownBy w2 v.ownBlock):Cr w2 rb i p C f4 f5 tb l:=by
 refine h.A8.AF (((Aj.refl _ w).alloc o).next (.CA I)) (fun e=>?_) (fun g J e=>?_)
 ·have:=(j _ e).1;have:=h.EE;omega
 ·have:=(j _ e).1;have:=h.Gn _ J;omega
def jO(w:World)(B rb:Nat)(f4 f5:Value)(tb:Option Nat)(x:Bo)(l:List Tk)(e:Ending)(w':World):Prop:=
 Aj (fun k=>k=rb\/B<=k) w w'/\match Dd x l with
 | .ok (C,o)=>e=.returned (.tuple #[])/\∃i j p,Da w' B rb f4 f5 tb o C i j p
 | .error f=>B0 f e
def Xl(k p:Int)(s:ByteArray)(w:World):(Instr.field 201 (.agg #[k,.string s,p]) 2).run Tryz.prog w=.ok p w:=by kernel_rfl
def WR{w:World}{B rb:Nat}{f4 f5:Value}{tb:Option Nat}{l:List Tk}{x:Bo}{dv kv sv:Value}(h:Da w B rb f4 f5 tb l x dv kv sv):() 119 #[(rb,0)] w (jO w B rb f4 f5 tb x l):=by
 obtain⟨t,r,rfl⟩:=h.A8.ended.cons;obtain⟨A1,c1,A2,c2,A3,c3,rfl,rfl,rfl⟩:=h.ex;have H7:=Hd (h.A8.is 7 7 rfl);have H8:=Hd (h.A8.is 8 8 rfl);have al:=Hd h.A8.bad;have bb:=h.EE;by_cases U:t.k=7
 ·have hk:(t.k==7)=true:=by simp[U]
  rw[hk]at H7;have HT:=Hd (h.A8.take (by omega));obtain⟨j,o,rfl⟩:=(h.A8.ended.tail (by omega)).1.cons;have HH:=Hd h;cases I:Bi j with
  | false=>
   have HE:Hid (Dd x (t::j::o)=.error (DP (j::o))):=Hd (by simp[Dd,U,I]);have ag:=Hd I;clear h U I hk;go_enter Tryz.func119,Tryz.ntmps119
   go_wp2_with (first
    | (go_at_call 118;with_reducible refine H7.out.mono ?_;rintro e R ⟨rfl,i⟩;subst i)
    | (go_at_call 120;refine HT.mono ?_;intro e w1 hx;obtain⟨rfl,a1,a0⟩:=hx;have aa:=Hd a1;have HY:=Hd (ag.out▸a0.sym);have ak:=Hd a0.bad;clear a1 a0)
    | (go_at_call 167;refine HY.mono ?_;rintro e R ⟨rfl,i⟩;subst i)
    | (go_at_call 168;refine ak.mono ?_;rintro e R ⟨rfl,i⟩;subst i))
   refine⟨rfl,aa.mono (fun _ h=>.inl h),?_⟩;rw[HE.out];exact B0.of rfl rfl
  | true=>
   have HE:Hid (Dd x (t::j::o)=.ok ({x with decl:=x.decl++(j::o).takeWhile Bi},(j::o).dropWhile Bi)):=Hd (by simp[Dd,U,I]);have ag:=Hd I;have HN:Hid (j::o≠[]):=Hd (by simp);have b6:Hid (x.decl.length+(j::o).length<=100000):=Hd (by have:=h.ld;simp at this ⊢;omega);clear U hk;go_enter Tryz.func119,Tryz.ntmps119
   go_wp2_with (first
    | (go_at_call 118;with_reducible refine H7.out.mono ?_;rintro e R ⟨rfl,i⟩;subst i)
    | (go_at_call 120;refine HT.mono ?_;intro e w1 hx;obtain⟨rfl,a1,a0⟩:=hx;have aa:=Hd a1;have HY:=Hd (I▸a0.sym);have af:=Hd (HH.AF a1 (fun _ h=>h) a0 (by simp));clear a1 a0 h I)
    | (go_at_call 167;refine HY.mono ?_;rintro e R ⟨rfl,i⟩;subst i))
   have bd:B<=w1.heap.size:=af.bB;go_loopg [] (j::o).length (fun n wr=>∃dv a rest,n=rest.length/\Hid (Da wr B rb f4 f5 tb rest {x with decl:=x.decl++a} dv (.slice A2 x.marks.length c2) (.slice A3 x.starts.length c3))/\Hid (Aj (fun k=>k=rb\/B<=k) w wr)/\Hid ((j::o).takeWhile Bi=a++rest.takeWhile Bi/\(j::o).dropWhile Bi=rest.dropWhile Bi))
   case atStart=>
    have b0:Da w1 B rb f4 f5 tb (j::o) {x with decl:=x.decl++[]} (.slice A1 x.decl.length c1) (.slice A2 x.marks.length c2) (.slice A3 x.starts.length c3):=by rw[List.append_nil];exact af
    exact⟨.slice A1 x.decl.length c1,[],j::o,rfl,Hd b0,Hd (aa.mono (fun _ h=>.inl h)),Hd ⟨rfl,rfl⟩⟩
   case round=>
    obtain⟨dv,a,rest,rfl,HR,HC,a8⟩:=hrel;obtain⟨t3,r3,rfl⟩:=HR.A8.ended.cons;obtain⟨A,c,au⟩:=BE HR.decl;generalize ai:(x.decl++a).length=n at *;have ar:=HR.ld;have ay:({x with decl:=x.decl++a}:Bo).decl.length=n:=ai;simp at ar ai;subst au;have a9:=Hd HR.A8.sym;have az:=HR.bB;cases h3:Bi t3 with
    | false=>
     rw[h3]at a9;go_wp2_with (go_at_call 167;refine a9.mono ?_;rintro e R ⟨rfl,i⟩;subst i)
     refine bodyPost_ret (results_none rfl _ _ _) rfl ⟨HC,?_⟩;rw[HE.out];have h1:=a8.1;have I:=a8.2;rw[List.takeWhile_cons (a:=t3),if_neg (by rw[h3];simp),List.append_nil]at h1;rw[List.dropWhile_cons (x:=t3),if_neg (by rw[h3];simp)]at I;rw[h1,I];exact⟨rfl,_,_,_,HR⟩
    | true=>
     rw[h3]at a9;have ad:=Hd HR.drew;have ao:=Hd (ad.A8.take (OI h3));have ah:=Hd h3;obtain⟨b1,_,_,_,_,_⟩:=ad.A8.cells;clear h3;go_wp2_with (go_at_call 167;refine a9.mono ?_;rintro e R ⟨rfl,i⟩;subst i)
     go_region_law (first
       | (
         refine Fh Lo (.tmp 20) (.tmp 23) ?_ ?_ (base:=B) (n:=n) (m:=1) (N:=n+1) (v:=.slice A n c) (src:=.slice (w3,0) 1 1) (xs:=(x.decl++a).flatMap Tk.cells) (news:=t3.cells) ?_ ?_ ?_ ?_ ?_ ?_ ?_ ?_ ?_
         · rfl
         · rfl
         · rfl
         · rfl
         · have:=T.decl
           rw[ay]at this;exact this.alloc _
         · exact Le w3 _ _ _
         · rfl
         · unfold maxLen;omega
         · omega
         · simp;omega
         intro A4 c4 w4 q1 q2 P;have HF:=Hd (aL T (by simp;omega) (by simp;omega) q1 P);have J:=T.grown (B7 T.decl) P.1;obtain⟨cA,_,_,_,_,_⟩:=J.cells;have vA:=J.frozen 1;clear q1 q2 P J)
       | (
         go_simp;go_at_call 120;refine ao.mono ?_;intro e w3 hx;obtain⟨rfl,p,C⟩:=hx;have ab:=Hd p;have T:=Hd (ad.AF p (fun _ h=>h) C (by simp));obtain⟨d1,_,_,_,_,aj⟩:=C.cells;have v1:=C.frozen 1;have b4:wr.heap.size<=w3.heap.size:=p.size;clear p C))
     all_goals go_wp2
     all_goals go_roundg r3.length
     all_goals first
       | (case measure=>simp)
       | (case rel=>
          refine⟨.slice A4 (n+1) c4,a++[t3],r3,rfl,Hd ?_,Hd ?_,Hd ?_⟩
          · have:=HF.1
            rw[List.append_assoc]at this;exact this
          · exact(HC.drew.next (ab.mono (fun _ h=>.inl h))).next HF.2
          · have h1:=a8.1
            have I:=a8.2;rw[List.takeWhile_cons (a:=t3),if_pos ah.out]at h1;rw[List.dropWhile_cons (x:=t3),if_pos ah.out]at I;exact⟨by rw[h1];simp,I⟩)
 ·have hk:(t.k==7)=false:=by simp[U]
  rw[hk]at H7;by_cases h8:t.k=8
  ·have a3:(t.k==8)=true:=by simp[h8]
   rw[a3]at H8;obtain⟨j,o,rfl⟩:=(h.A8.ended.tail (by omega)).1.cons;have HD:=Hd h.drew;have HT:=Hd (HD.A8.take (by omega));obtain⟨_,b2,_,_,_,az⟩:=HD.A8.cells;have aw:=h.lm;have ax:=h.ls;simp at aw ax;have b8:=h.bB;have a4:Hid (j.k=1->Dd x (t::j::o)=.ok ({x with marks:=x.marks++[t.p],starts:=x.starts++[j]},o)):=Hd (fun e=>by simp[Dd,h8,Cw,e]);have a5:Hid (j.k≠1->Dd x (t::j::o)=.error (DP (j::o))):=Hd (fun e=>by simp[Dd,h8,Cw,e]);have b9:=Xl t.k t.p (str t.s);clear h U h8 hk a3;go_enter Tryz.func119,Tryz.ntmps119
   go_wp2_with (first
    | (go_at_call 118;with_reducible refine H7.out.mono ?_;rintro e R ⟨rfl,i⟩;subst i)
    | (go_at_call 118;with_reducible refine H8.out.mono ?_;rintro e R ⟨rfl,i⟩;subst i))
   go_region_law (first
    | (
      refine Fh Se (.tmp 34) (.tmp 38) ?_ ?_ (base:=B) (n:=x.marks.length) (m:=1) (N:=x.marks.length+1) (v:=.slice A2 x.marks.length c2) (src:=.slice (w3,0) 1 1) (xs:=x.marks.map Mark) (news:=[Mark t.p]) ?_ ?_ ?_ ?_ ?_ ?_ ?_ ?_ ?_
      · rfl
      · rfl
      · rfl
      · rfl
      · exact T.marks.alloc _
      · exact QW w3 _
      · rfl
      · unfold maxLen;omega
      · omega
      · simp;omega
      intro A4 c4 w4 q1 q2 P;have HF:=Hd (bY T (by simp;omega) (by simp) q1 P);have J:=T.grown (B7 T.marks) P.1;obtain⟨_,cA,_,_,_,_⟩:=J.cells;have vA:=J.frozen 2;clear q1 q2 P J)
    | (
      go_simp;go_at_call 120;refine HT.mono ?_;intro e w3 hx;obtain⟨rfl,p,C⟩:=hx;have ab:=Hd p;have T:=Hd (HD.AF p (fun _ h=>h) C (by simp));obtain⟨_,d2,_,_,_,aj⟩:=C.cells;have v1:=C.frozen 2;have b4:w.heap.size<=w3.heap.size:=p.size;clear p C))
   all_goals go_wp2
   all_goals generalize b5:World.setCell w4 (rb,2) (.slice A4 (x.marks.length+1) c4)=w5 at *
   all_goals clear b2 d2 v1 cA vA b5
   all_goals have a6:=Hd HF.1.drew
   all_goals have ae:=Hd ((((Aj.refl (fun k=>k=rb\/B<=k) w).drew.next (ab.mono (fun _ h=>.inl h))).next HF.2).drew)
   all_goals have b7:=HF.1.bB
   all_goals have av:=HF.1.ld
   all_goals simp at av
   all_goals obtain⟨_,_,b3,_,_,ba⟩:=a6.A8.cells
   all_goals by_cases a2:j.k=1
   all_goals first
    | (
      have HW:=Hd (a6.A8.want 1 1 rfl a2 (by omega));replace a4:=Hd (a4 a2);clear a2 a5;go_region_law (first
        | (
          refine Fh Lo (.tmp 46) (.tmp 49) ?_ ?_ (base:=B) (n:=x.starts.length) (m:=1) (N:=x.starts.length+1) (v:=.slice A3 x.starts.length c3) (src:=.slice (w6,0) 1 1) (xs:=x.starts.flatMap Tk.cells) (news:=j.cells) ?_ ?_ ?_ ?_ ?_ ?_ ?_ ?_ ?_
          · rfl
          · rfl
          · rfl
          · rfl
          · exact a7.starts.alloc _
          · exact Le w6 _ _ _
          · rfl
          · unfold maxLen;omega
          · omega
          · simp;omega
          intro A6 c6 w7 q1 q2 P;have HG:=Hd (Vi a7 (by simp;omega) (by simp) q1 P);have J:=a7.grown (B7 a7.starts) P.1;obtain⟨_,_,cA,_,_,_⟩:=J.cells;have vA:=J.frozen 3;clear q1 q2 P J)
        | (
          go_simp;go_at_call 169;refine HW.mono ?_;intro e w6 hx;obtain⟨rfl,p,C⟩:=hx;have an:=Hd p;have a7:=Hd (a6.AF p (fun _ h=>h) C (by simp));obtain⟨_,_,d2,_,_,aj⟩:=C.cells;have v1:=C.frozen 3;have bc:w5.heap.size<=w6.heap.size:=p.size;clear p C))
      all_goals go_wp2
      all_goals refine bodyPost_ret (results_none rfl _ _ _) rfl ⟨(ae.next (an.mono (fun _ h=>.inl h))).next HG.2,?_⟩
      all_goals rw[a4.out]
      all_goals exact⟨rfl,_,_,_,HG.1⟩)
    | (
      have HW:=Hd (a6.A8.Mn 1 1 rfl a2);replace a5:=Hd (a5 a2);clear a2 a4
      go_region_dies
      all_goals (refine HW.mono ?_;rintro e w6 ⟨rfl,aq⟩;exact⟨rfl,ae.next (.AK aq),by rw[a5.out];exact B0.of rfl rfl⟩))
  ·have a3:(t.k==8)=false:=by simp[h8]
   rw[a3]at H8;have HE:Hid (Dd x (t::r)=.error (DP (t::r))):=Hd (by simp[Dd,U,h8]);clear h U h8 hk a3;go_enter Tryz.func119,Tryz.ntmps119
   go_wp2_with (first
    | (go_at_call 118;with_reducible refine H7.out.mono ?_;rintro e R ⟨rfl,i⟩;subst i)
    | (go_at_call 118;with_reducible refine H8.out.mono ?_;rintro e R ⟨rfl,i⟩;subst i)
    | (go_at_call 168;refine al.mono ?_;rintro e R ⟨rfl,i⟩;subst i))
   refine⟨rfl,Aj.refl _ _,?_⟩;rw[HE.out];exact B0.of rfl rfl
def IM{w:World}{B i:Nat}{v:Value}(h:w.ownsRow B e size v n xs)(l:i<=B):w.ownsRow i e size v n xs:=by
 refine⟨h.1,?_⟩;rcases h.2 with p|⟨g,cap,j,rfl,o,rest⟩
 ·exact .inl p
 ·exact .inr ⟨g,cap,j,rfl,AY l o,rest⟩
structure GS where
 s:PS
 v:Value
def GS.cells(q:GS):List Value:=[q.v,.int .i64 q.s.p]
structure Bu where
 left:Tk
 v:Value
 ss:List GS
def Bu.cells(r:Bu):List Value:=[.int .i64 r.left.k,.string (str r.left.s),.int .i64 r.left.p,r.v]
def Bu.r(r:Bu):PR:=⟨r.left,r.ss.map GS.s⟩
def IU(w:World)(B:Nat)(q:GS):Prop:=w.ownsRow B 201 3 q.v q.s.l.length (q.s.l.flatMap Tk.cells)
def IE(w:World)(B:Nat)(r:Bu):Prop:=w.ownsRow B 211 2 r.v r.ss.length (r.ss.flatMap GS.cells)/\∀q∈r.ss,IU w B q
def IU.AF{w:World}{B:Nat}{q:GS}(h:IU w B q)(j:Aj X w w')(l:∀g,B<=g->g<w.heap.size->¬X g):IU w' B q:=
 j.own h (fun g i=>l g (B7 h g i).1 (B7 h g i).2)
def IE.AF{w:World}{B:Nat}{r:Bu}(h:IE w B r)(i:Aj X w w')(l:∀g,B<=g->g<w.heap.size->¬X g):IE w' B r:=
 ⟨i.own h.1 (fun g j=>l g (B7 h.1 g j).1 (B7 h.1 g j).2),fun q o=>(h.2 q o).AF i l⟩
def Qd:El Tryz.prog 206 211 2 32:=El.of (z:=.agg #[.slice none 0 0,.int .i64 0]) Tryz.underlying206 (by kernel_rfl) rfl (by decide)
def V9:El Tryz.prog 138 208 4 56:=El.of (z:=.agg #[.int .i64 0,.string ⟨#[]⟩,.int .i64 0,.slice none 0 0]) Tryz.underlying138 (by kernel_rfl) rfl (by decide)
def Tl(y:World)(A:Option Addr)(n c:Nat)(p:Int):Bf (y.alloc (.cells #[.slice A n c,p] 211)) (.slice (y,0) 1 1) 1 2 [.slice A n c,.int .i64 p]:=
 Bf.Ap (c:=1) (Ah.new y 211 #[.slice A n c,p]) rfl (by simp[Value.oneCell'])
structure G5(w:World)(rb:Nat)(f1 f2 f3 f4 f5:Value)(tb:Option Nat)(bb:Nat)(t:Tk)(sv:Value)(ss:List GS)(rest:List Tk)(wr:World):Prop where
 A8:Cr wr rb f1 f2 f3 f4 f5 tb rest
 Ap:Ah wr bb 208 #[t.k,.string (str t.s),t.p,sv]
 own:wr.ownsRow w 211 2 sv ss.length (ss.flatMap GS.cells)
 G9:∀q∈ss,IU wr w.heap.size q
 AF:Aj (·=rb) w wr
 bb:w.heap.size<=bb
 rb:rb<w.heap.size
 tb:∀g,tb=some g->g<w.heap.size
namespace G5
variable {w wr:World} {rb:Nat} {f1 f2 f3 f4 f5:Value} {tb:Option Nat} {bb:Nat} {t:Tk} {sv:Value} {ss:List GS} {rest:List Tk}
def later(h:G5 w rb f1 f2 f3 f4 f5 tb bb t sv ss rest wr){j:World}{l:List Tk}(i:Aj (·=rb) wr j)(p:Cr j rb f1 f2 f3 f4 f5 tb l):G5 w rb f1 f2 f3 f4 f5 tb bb t sv ss l j:=by have J:=h.rb;have I:=h.bb;exact⟨p,i.Ap h.Ap (by omega),i.own h.own (CZ h.own h.rb),fun q o=>(h.G9 q o).AF i (fun g C _ e=>by omega),h.AF.next i,h.bb,h.rb,h.tb⟩
def drew(h:G5 w rb f1 f2 f3 f4 f5 tb bb t sv ss rest wr):G5 w rb f1 f2 f3 f4 f5 tb bb t sv ss rest wr.drew:=h.later ((Aj.refl _ _).drew) h.A8.drew
def rel(h:G5 w rb f1 f2 f3 f4 f5 tb bb t sv ss rest wr){l:World}{A:Option Addr}{c:Nat}(hn:j=j)
  (a3:Aj (·=rb) wr l) (C:Cr l rb f1 f2 f3 f4 f5 tb (rest.dropWhile Bi)) (a5:l.ownsRow wr 201 3 (.slice A (BX rest).l.length c) (BX rest).l.length ((BX rest).l.flatMap Tk.cells))
  (r1:w2.ownsRow w 211 2 (.slice j (ss.length+1) c2) (ss.length+1) (ss.flatMap GS.cells++[.slice A (BX rest).l.length c,.int .i64 (BX rest).p]))
  (o:AJ w [211] (l.alloc (.cells #[.slice A (BX rest).l.length c,.int .i64 (BX rest).p] 211)) w2) :
  G5 w rb f1 f2 f3 f4 f5 tb bb t (.slice j (ss.length+1) c2) (ss++[⟨BX rest,.slice A (BX rest).l.length c⟩]) (rest.dropWhile Bi) (w2.setCell (bb,3) (.slice j (ss.length+1) c2)):=by
 have J:=h.later a3 C;have a6:=h.rb;have a0:=h.bb;have a7:rb≠bb:=by omega
 have a8:w.heap.size<=wr.heap.size:=h.AF.size;have P:Ah w2 bb 208 #[t.k,.string (str t.s),t.p,sv]:=o.Ap (J.Ap.alloc _) (.inr (by decide));have a4:Aj (·=rb) w w2:=(J.AF.alloc _).keeps o;have a1:∀q,IU l w.heap.size q->IU (w2.setCell (bb,3) (.slice j (ss.length+1) c2)) w.heap.size q:=by
  intro q i;have U:IU w2 w.heap.size q:=o.own ((Aj.refl (fun _=>False) l).alloc _ |>.own i (fun _ _=>id)) (.inr (by decide));refine Ey U ?_ _;intro e;rcases Bk U with⟨I,_⟩|⟨b,c,I,_,_,_,_,a2,R⟩
  ·rw[I]at e;cases e
  ·rw[I]at e
   cases e
   exact Ah.Bh (t:=201) R P (by decide) rfl
 refine⟨⟨?_,C.ended,C.ne⟩,by simpa using P.Be 3 _,?_,?_,a4.set (p:=⟨bb,3,none⟩) (.inl a0) _,a0,a6,h.tb⟩
 ·obtain⟨lv,k1,k2,k3⟩:=C.ex
  refine⟨lv,(o.Ap (k1.alloc _) (.inr (by decide))).BI (by simpa using a7) _,?_,k3⟩;obtain⟨b,off,c,cs,rfl,T⟩:=k2;have hb:=h.tb b (by rw[<-k3];rfl);exact⟨b,off,c,cs,rfl,(o.Ap (T.Ap.alloc _) (.inl hb)).BI (by simp;omega) _,T.cap,T.cell⟩
 ·rw[show (ss++[⟨BX rest,.slice A (BX rest).l.length c⟩]:List GS).length=ss.length+1 by simp,List.flatMap_append]
  refine Ey (by simpa [GS.cells] using r1) ?_ _;intro p;rcases Bk r1 with⟨e,_⟩|⟨b,c,e,_,_,_,_,a2,R⟩
  ·rw[e]at p;cases p
  ·rw[e]at p
   cases p
   exact Ah.Bh (t:=211) R P (by decide) rfl
 ·intro q i
  rcases mA.1 i with i|i
  ·exact a1 q (J.G9 q i)
  ·rw[mS]at i
   subst i;exact a1 _ (IM a5 a8)
end G5
section
open Go.RowKit Go.Maps
def Ir:Keyed Tryz.prog 9:=string_keyed Tryz.underlying9
def Lh(w:World):(zeroValue 3).run Tryz.prog w=.ok (.int .i64 0) w:=by kernel_rfl
def Ch(s:List UInt8):Lit:=.string s
def Mv(s:List UInt8):WideAt.IsKeyLit (Ch s):=by unfold Ch;simp[WideAt.IsKeyLit]
def N7{a b:List UInt8}(h:Ch a=Ch b):a=b:=by unfold Ch at h;injection h
def I8(D:DataW Unit)(L:List (List UInt8)):Prop:=∀s,D.atKey (Ch s) (.lit (.int .i64 0))=.lit (.int .i64 (L.count s))
def I8.start:I8 (.map []) []:=fun s=>rfl
def I8.next{D:DataW Unit}{L:List (List UInt8)}(h:I8 D L)(j:Maps.Tidy D)(s:List UInt8):I8 (D.put (Ch s) (.lit (.int .i64 (L.count s+1)))) (L++[s]):=by
 intro u;rw[List.count_append];by_cases e:u=s
 ·subst e
  rw[Maps.atKey_put_same j.isMap (Mv _)];simp
 ·rw[Maps.atKey_put_other (fun i=>e (N7 i)),h u]
  have:List.count u [s]=0:=by rw[List.count_eq_zero];simpa using e
  rw[this,Nat.add_zero]
def Ei{w:World}{D:DataW Unit}(h:w.ownsMap Tryz.prog 9 (plainElem Tryz.prog 3) b n D)(l:Aj X w w')(o:¬X b):w'.ownsMap Tryz.prog 9 (plainElem Tryz.prog 3) b n D:=by obtain⟨j,clock,i,rest⟩:=h;exact⟨j,clock,(l.block b (aG.1 i).1 o).trans i,rest⟩
structure DM(w:World)(B rb mb:Nat)(tb:Option Nat)(l:List Tk)(x:Bo)(dv kv sv rv:Value)(rs:List Bu)(D:DataW Unit):Prop where
 By:Da w B rb rv (.map (some mb)) tb l x dv kv sv
 rules:w.ownsRow B 208 4 rv rs.length (rs.flatMap Bu.cells)
 G9:∀r∈rs,IE w B r
 map:w.ownsMap Tryz.prog 9 (plainElem Tryz.prog 3) mb rs.length D
 Li:I8 D (rs.map fun r=>r.left.s)
 Pc:mb<B
 mr:mb≠rb
 lr:rs.length+l.length<=100000
def IE.past{w:World}{B rb:Nat}{r:Bu}{rv:Value}(h:IE w B r)(p:w.ownsRow B 208 4 rv n xs)(t:rb<B)(o:Aj (fun k=>k=rb\/rv.ownBlock=some k) w w'):IE w' B r:=by
 refine⟨o.own h.1 ?_,fun q l=>o.own (h.2 q l) ?_⟩
 ·rintro g i (rfl|j)
  ·exact CZ h.1 t _ i rfl
  ·exact Gs p h.1 (by decide) g j i
 ·rintro g i (rfl|j)
  ·exact CZ (h.2 q l) t _ i rfl
  ·exact Gs p (h.2 q l) (by decide) g j i
structure JT(w w7:World)(B rb mb bb:Nat)(tb:Option Nat)(l:List Tk)(x:Bo)(dv kv sv rv:Value)(rs:List Bu)(q:Bu)(D:DataW Unit):Prop where
 By:Da w7 B rb rv (.map (some mb)) tb l x dv kv sv
 rules:w7.ownsRow B 208 4 rv (rs.length+1) ((rs++[q]).flatMap Bu.cells)
 G9:∀r∈rs++[q],IE w7 B r
 map:w7.ownsMap Tryz.prog 9 (plainElem Tryz.prog 3) mb rs.length D
 Ap:Ah w7 bb 208 #[q.left.k,.string (str q.left.s),q.left.p,q.v]
 AF:Aj (fun k=>k=rb\/B<=k) w w7
def Wc{w I w6:World}{B rb mb bb:Nat}{tb:Option Nat}{l rest:List Tk}{x:Bo}{dv kv sv rv bv:Value}{j:List Bu}{D:DataW Unit}{t:Tk}{ss:List GS}{J:Option Addr}{P:Nat}
  (h:DM w B rb mb tb l x dv kv sv rv j D) (p:G5 w rb dv kv sv rv (.map (some mb)) tb bb t bv ss rest I) (hl:rest.length<=l.length)
  (r1:w6.ownsRow B 208 4 (.slice J (j.length+1) P) (j.length+1) (j.flatMap Bu.cells++[.int .i64 t.k,.string (str t.s),.int .i64 t.p,bv]))
  (r3:(I.alloc o).grownBy w6 rv.ownBlock/\((Value.slice J (j.length+1) P).ownBlock=rv.ownBlock\/(Value.slice J (j.length+1) P).ownBlock=some (I.alloc o).heap.size)) :
  JT w (w6.setCell (rb,4) (.slice J (j.length+1) P)) B rb mb bb tb rest x dv kv sv (.slice J (j.length+1) P) j ⟨t,bv,ss⟩ D:=by
 have a0:=h.By.EE;have a8:=p.bb;have a3:=h.By.bB;have i:Da I B rb rv (.map (some mb)) tb rest x dv kv sv:=h.By.AF p.AF (fun _ h=>h) p.A8 hl;have a2:I.ownsRow B 208 4 rv j.length (j.flatMap Bu.cells):=p.AF.own h.rules (CZ h.rules a0);have hX:Aj (fun k=>rv.ownBlock=some k) I w6:=((Aj.refl _ I).alloc o).next (.CA r3.1);have a1:∀k,rv.ownBlock=some k->B<=k:=fun k hk=>(B7 h.rules k hk).1
 have a5:∀k,rv.ownBlock=some k->k<w.heap.size:=fun k hk=>(B7 h.rules k hk).2
 have R:Aj (fun k=>k=rb\/rv.ownBlock=some k) I (w6.setCell (rb,4) (.slice J (j.length+1) P)):=(hX.mono (fun a4 hi=>.inr hi)).set (p:=⟨rb,4,none⟩) (.inr (.inl rfl)) _;have e1:¬rv.ownBlock=some rb:=fun e=>by have:=a1 _ e;omega
 have a7:Cr (w6.setCell (rb,4) (.slice J (j.length+1) P)) rb dv kv sv (.slice J (j.length+1) P) (.map (some mb)) tb rest:=by
  obtain⟨lv,k1,k2,k3⟩:=p.A8.ex;refine⟨⟨lv,by simpa using(hX.Ap k1 e1).Be 4 _,k2.AF R ?_,k3⟩,p.A8.ended,p.A8.ne⟩;intro g C;rw[k3]at C;rintro(rfl|U)
  ·exact p.A8.ne C
  ·have:=h.By.Gn g C;have:=a1 g U;omega
 have a6:∀r∈j++[(⟨t,bv,ss⟩:Bu)],IE I B r:=by
  intro r T;rcases mA.1 T with T|T
  ·exact(h.G9 r T).AF p.AF (fun g h1 _ e=>by omega)
  ·rw[mS]at T
   subst T;exact⟨IM p.own a3,fun q hq=>IM (p.G9 q hq) a3⟩
 have hT:Aj (fun k=>k=rb\/B<=k) I (w6.setCell (rb,4) (.slice J (j.length+1) P)):=R.mono (fun a4 hi=>hi.imp id (a1 a4));refine⟨?_,?_,fun r T=>(a6 r T).past a2 a0 R,?_,?_,(p.AF.mono (fun _ h=>.inl h)).next hT⟩
 ·refine⟨a7,R.own i.decl ?_,R.own i.marks ?_,R.own i.starts ?_,i.apart,i.EE,i.Gn,AY i.bB R.size,i.ld,i.lm,i.ls⟩
  ·rintro g C (rfl|U)
   ·exact CZ i.decl a0 _ C rfl
   ·exact Gs a2 i.decl (by decide) g U C
  ·rintro g C (rfl|U)
   ·exact CZ i.marks a0 _ C rfl
   ·exact Gs a2 i.marks (by decide) g U C
  ·rintro g C (rfl|U)
   ·exact CZ i.starts a0 _ C rfl
   ·exact Gs a2 i.starts (by decide) g U C
 ·rw[List.flatMap_append]
  exact Ey (by simpa [Bu.cells] using r1) (fun e=>CZ r1 a0 _ e rfl) _
 ·refine Ei (Ei h.map p.AF h.mr) R ?_
  rintro(e|e)
  ·exact h.mr e
  ·have:=a1 _ e;have:=h.Pc;omega
 ·refine R.Ap p.Ap ?_
  rintro(rfl|e)
  ·have:=p.rb;omega
  ·have:=a5 _ e;omega
def Aj.of_map{w:World}(h:w.grownBy w' (some b)):Aj (·=b) w w':=⟨h.os,h.tape,h.output,h.size,fun k i j=>h.block k i (fun e=>j (by injection e))⟩
def JT.last{w T p:World}{B rb mb U:Nat}{tb:Option Nat}{l R:List Tk}{x:Bo}{t J rv a3:Value}{j:List Bu}{q:Bu}{D:DataW Unit}
  (h0:DM w B rb mb tb R x t I J a3 j D) (hl:l.length<R.length) (h:JT w T B rb mb U tb l x t I J rv j q D) (hg:T.grownBy p (some mb))
  (hm:p.ownsMap Tryz.prog 9 (plainElem Tryz.prog 3) mb (j.length+1) (D.put (Ch q.left.s) (.lit (.int .i64 ((j.map fun r=>r.left.s).count q.left.s+1))))) :
  DM p B rb mb tb l x t I J rv (j++[q]) (D.put (Ch q.left.s) (.lit (.int .i64 ((j.map fun r=>r.left.s).count q.left.s+1))))/\Aj (fun k=>k=rb\/B<=k\/k=mb) w p:=by
 have i:=Aj.of_map hg;have o:=h0.Pc;have a1:=h0.By.EE;have a4:=h0.lr;have a5:=h.By.A8.lt;refine⟨⟨?_,?_,fun r hr=>(h.G9 r hr).AF i (fun g h1 _ e=>by omega),by simpa using hm,?_,o,h0.mr,by simp;omega⟩,(h.AF.mono (fun a2 C=>C.imp id .inl)).next (i.mono (fun a2 C=>.inr (.inr C)))⟩
 ·exact⟨h.By.A8.AF i (Ne.symm h0.mr) (fun g P e=>by
   subst e;obtain⟨lv,_,k2,k3⟩:=h.By.A8.ex;obtain⟨b,off,c,cs,rfl,a0⟩:=k2;rw[<-k3]at P;cases P
   obtain⟨es,clock,hb,_⟩:=h.map;have:=a0.Ap;unfold Ah at this;rw[hb]at this;cases this),i.own h.By.decl (CZ h.By.decl o),i.own h.By.marks (CZ h.By.marks o),i.own h.By.starts (CZ h.By.starts o),h.By.apart,a1,h.By.Gn,AY h.By.bB i.size,h.By.ld,h.By.lm,h.By.ls⟩
 ·rw[show (j++[q]).length=j.length+1 by simp]
  exact i.own h.rules (CZ h.rules o)
 ·rw[Bw]
  exact h0.Li.next (h0.map.tidy Ir) q.left.s
end
end Go.Proofs.YthaacmablcpdfaaGreatDoor
