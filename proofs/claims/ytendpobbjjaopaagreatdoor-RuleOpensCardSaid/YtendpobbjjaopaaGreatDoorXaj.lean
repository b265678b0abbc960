/- . -/
import Derived.Shelf.Strings.Search1
import Derived.Shelf.Strings.Search2
import Derived.Shelf.Strings.Search3
import Derived.Shelf.LaysM
import Derived.Shelf.Strings.Shaped
import Derived.Shelf.Strings.Prefix
import Derived.Test.YtendpobbjjaopaaGreatDoorXac
import Derived.Lib.IndexMore
import Derived.Deep.LoopGhost
import Derived.BigRegion
import Derived.RegionDies
import Derived.Maps.Own
import Derived.Maps.OwnOps
import Derived.Maps.OwnSet
import Derived.Maps.Views
import Derived.StringKeys
set_option linter.all false
set_option maxRecDepth 100000
set_option maxHeartbeats 16000000
namespace Go.Proofs
open Go.Shelf
def Tryz.bY:Go.Shelf.Ren:=⟨fun|217=>160|266=>198|n=>n,fun|9=>9|5=>5|3=>3|n=>n,fun|n=>n⟩
def Tryz.Xk:Go.Proofs.Lays.n217 Tryz.prog Tryz.bY:={
 mixed:=by kernel_rfl
 f217:=Tryz.func160.trans (congrArg some (by kernel_rfl))
 f266:=Tryz.func198.trans (congrArg some (by kernel_rfl))
 t3:=Tryz.underlying3
 a3:=Tryz.isAgg3
 z3:=Tryz.sizeOf3
 v3:=Tryz.zeroValue3
 t5:=Tryz.underlying5
 a5:=Tryz.isAgg5
 z5:=Tryz.sizeOf5
 v5:=Tryz.zeroValue5
 t9:=Tryz.underlying9
 a9:=Tryz.isAgg9
 z9:=Tryz.sizeOf9
 v9:=Tryz.zeroValue9}
open Go.RowKit Go.Lib in
def Tryz.stringslite_IndexByte(s:ByteArray)(c:Int)(w:World) :
 Calls Tryz.prog 160 #[.string s,.int .u8 c] w fun e w'=>e=.returned (.int .i64 (Lib.indexByte s.data.toList c.toNat.toUInt8))/\w'=w:=Any.stringslite_IndexByte Tryz.Xk s c w
def Tryz.kW:Go.Shelf.Ren:=⟨fun|143=>192|219=>221|217=>160|225=>234|224=>235|267=>236|266=>198|314=>248|n=>n,fun|9=>9|3=>3|4=>4|5=>5|46=>291|146=>325|51=>323|n=>n,fun|1=>2|n=>n⟩
def Tryz.nF:Go.Proofs.Lays.n143 Tryz.prog Tryz.kW:={
 mixed:=by kernel_rfl
 f143:=Tryz.func192.trans (congrArg some (by kernel_rfl))
 f217:=Tryz.func160.trans (congrArg some (by kernel_rfl))
 f219:=Tryz.func221.trans (congrArg some (by kernel_rfl))
 f224:=Tryz.func235.trans (congrArg some (by kernel_rfl))
 f225:=Tryz.func234.trans (congrArg some (by kernel_rfl))
 f266:=Tryz.func198.trans (congrArg some (by kernel_rfl))
 f267:=Tryz.func236.trans (congrArg some (by kernel_rfl))
 f314:=Tryz.func248.trans (congrArg some (by kernel_rfl))
 t3:=Tryz.underlying3
 a3:=Tryz.isAgg3
 z3:=Tryz.sizeOf3
 v3:=Tryz.zeroValue3
 t4:=Tryz.underlying4
 a4:=Tryz.isAgg4
 z4:=Tryz.sizeOf4
 v4:=Tryz.zeroValue4
 t5:=Tryz.underlying5
 a5:=Tryz.isAgg5
 z5:=Tryz.sizeOf5
 v5:=Tryz.zeroValue5
 t9:=Tryz.underlying9
 a9:=Tryz.isAgg9
 z9:=Tryz.sizeOf9
 v9:=Tryz.zeroValue9
 t46:=Tryz.underlying291
 a46:=Tryz.isAgg291
 z46:=Tryz.sizeOf291
 v46:=Tryz.zeroValue291
 t51:=Tryz.underlying323
 a51:=Tryz.isAgg323
 z51:=Tryz.sizeOf323
 v51:=Tryz.zeroValue323
 t146:=Tryz.underlying325
 a146:=Tryz.isAgg325
 z146:=Tryz.sizeOf325
 v146:=Tryz.zeroValue325
 g1:=by kernel_rfl}
open Go.RowKit Go.Lib in
def Tryz.strings_Index(s sub:ByteArray)(m:Int)(w:World)(hs:s.size<4294967281)(hm:w.cell? ⟨2,0,none⟩=some (.int .i64 m)) :
 Calls Tryz.prog 192 #[.string s,.string sub] w fun e w'=>e=.returned (.int .i64 (Lib.index s.data.toList sub.data.toList))/\w'=w:=Any.strings_Index Tryz.nF s sub m w hs hm
def Tryz.Yq:Go.Shelf.Ren:=⟨fun|99=>31|206=>55|n=>n,fun|9=>9|4=>4|3=>3|n=>n,fun|n=>n⟩
def Tryz.YZ:Go.Proofs.Lays.n99 Tryz.prog Tryz.Yq:={
 mixed:=by kernel_rfl
 f99:=Tryz.func31.trans (congrArg some (by kernel_rfl))
 f206:=Tryz.func55.trans (congrArg some (by kernel_rfl))
 t3:=Tryz.underlying3
 a3:=Tryz.isAgg3
 z3:=Tryz.sizeOf3
 v3:=Tryz.zeroValue3
 t4:=Tryz.underlying4
 a4:=Tryz.isAgg4
 z4:=Tryz.sizeOf4
 v4:=Tryz.zeroValue4
 t9:=Tryz.underlying9
 a9:=Tryz.isAgg9
 z9:=Tryz.sizeOf9
 v9:=Tryz.zeroValue9}
open Go.RowKit Go.Lib in
def Tryz.strings_HasPrefix(s p:ByteArray)(w:World) :
 Calls Tryz.prog 31 #[.string s,.string p] w fun e w'=>e=.returned (.bool (Lib.hasPrefix s.data.toList p.data.toList))/\w'=w:=Any.strings_HasPrefix Tryz.YZ s p w
end Go.Proofs
namespace Go.Proofs.YtendpobbjjaopaaGreatDoor
open Go.RowKit
open Value renaming slice→oG,int→oH,string→oJ,bool→oK
open Option renaming some→oM,none→oN
open IntKind renaming i64→oO
open Obj renaming cells→oP
open Ending renaming returned→oQ
open World renaming cell?→oT
open Go renaming World→oU,Value→oV
variable{w' w2:oU}{e:TypeId}{c2 n size sz:Nat}{C I U i lv:oV}{o:Obj}{T:List TypeId}{X:Nat->Prop}{j:Option Addr}{xs:List oV}
def Mx{p:UInt8->Bool}(c:UInt8)(l:List UInt8):Ci p (c::l)=if p c then Ci p l+1 else 0:=by unfold Ci;rw[List.takeWhile_cons];split<;>simp
def NM(p:UInt8->Bool)(l:List UInt8):Ci p l<=l.length:=(List.takeWhile_sublist p).length_le
theorem X3(c:UInt8)(w:oU):() 142 #[oH .u8 c.toNat] w fun e w'=>e=oQ (oK (CE c))/\w=w':=by
 have i:=Hd (I4 c w);unfold CE;generalize Bo c=k at *;go_enter Tryz.func142,Tryz.ntmps142
 cases l:(k==4) with
 | true=>
  have p:((k:Int)==4)=true:=by rw[beq_iff_eq]at l ⊢;omega
  go_wp2_with (go_at_call 53;refine i.mono ?_;rintro e w' ⟨rfl,rfl⟩)
  go_ret;exact⟨rfl,rfl⟩
 | false=>
  have p:((k:Int)==4)=false:=by rw[bN]at l ⊢;omega
  have j:((k:Int)==3)=(k==3):=by rw[Bool.eq_iff_iff,beq_iff_eq,beq_iff_eq];omega
  have o:=Hd j;clear j;go_wp2_with (go_at_call 53;refine i.mono ?_;rintro e w' ⟨rfl,rfl⟩)
  go_ret;refine⟨?_,rfl⟩;rw[<-o.out];rfl
def X7(n:Int):Bool:=decide (0<=Lib.indexByte [32,9,10,13] n.toNat.toUInt8)
def bF:KA.all (fun c=>X7 c.toNat==FT c)=true:=by kernel_rfl
def ZN(c:UInt8):decide (0<=Lib.indexByte [32,9,10,13] (c.toNat:Int).toNat.toUInt8)=FT c:=beq_iff_eq.1 (List.all_eq_true.1 bF c (Mp c))
def Y8(s:ByteArray)(c:Int)(w:oU):() 117 #[oJ s,oH .u8 c] w fun e w'=>e=oQ (oH oO (Lib.indexByte s.data.toList c.toNat.toUInt8))/\w'=w:=by
 have i:=Hd (Tryz.stringslite_IndexByte s c w);go_enter Tryz.func117,Tryz.ntmps117
 go_wp2_with (go_at_call 160;refine i.mono ?_;rintro e w' ⟨rfl,rfl⟩)
 go_ret;exact⟨rfl,rfl⟩
def S6(c:UInt8)(w:oU):() 137 #[oH .u8 c.toNat] w fun e w'=>e=oQ (oK (FT c))/\w=w':=by
 have i:=Hd (Y8 ⟨#[32,9,10,13]⟩ c.toNat w);have j:=Hd (ZN c);generalize Lib.indexByte (⟨#[32,9,10,13]⟩:ByteArray).data.toList (c.toNat:Int).toNat.toUInt8=k at *;go_enter Tryz.func137,Tryz.ntmps137
 go_wp2_with (go_at_call 117;refine i.mono ?_;rintro e w' ⟨rfl,rfl⟩)
 go_ret;refine⟨?_,rfl⟩;rw[<-j.out];rfl
def Ws(c:UInt8)(w:oU):() 143 #[oH .u8 c.toNat] w fun e w'=>e=oQ (oH oO (Jh c))/\w=w':=by
 have p:(c=58)=((c.toNat:Int)=58):=by rw[<-UInt8.toNat_inj];show (c.toNat=58)=_;rw[eq_iff_iff];omega
 have o:(c=124)=((c.toNat:Int)=124):=by rw[<-UInt8.toNat_inj];show (c.toNat=124)=_;rw[eq_iff_iff];omega
 have t:(c=59)=((c.toNat:Int)=59):=by rw[<-UInt8.toNat_inj];show (c.toNat=59)=_;rw[eq_iff_iff];omega
 unfold Jh;simp only[p,o,t];clear p o t;generalize (c.toNat:Int)=n;by_cases i:n=58
 ·subst i
  go_enter Tryz.func143,Tryz.ntmps143
  go_wp2;go_ret;exact⟨rfl,rfl⟩
 by_cases j:n=124
 ·subst j
  go_enter Tryz.func143,Tryz.ntmps143
  go_wp2;go_ret;exact⟨rfl,rfl⟩
 by_cases l:n=59
 ·subst l
  go_enter Tryz.func143,Tryz.ntmps143
  go_wp2;go_ret;exact⟨rfl,rfl⟩
 rw[if_neg i,if_neg j,if_neg l];have C:(n==58)=false:=bN.2 i;have I:(n==124)=false:=bN.2 j;have J:(n==59)=false:=bN.2 l;clear i j l;go_enter Tryz.func143,Tryz.ntmps143
 go_wp2;go_ret;exact⟨rfl,rfl⟩
def Sn(s:ByteArray)(p k:Nat):Prop:=p+k<=s.size/\Ci FT (s.data.toList.drop p)=k+Ci FT (s.data.toList.drop (p+k))
def YR(s:ByteArray)(R:s.size<=4611686018427387904)(p:Nat)(P:p<=s.size)(w:oU):() 138 #[oJ s,p,.func (.func 137) #[] #[]] w fun e w'=>e=oQ (oH oO (Ci FT (s.data.toList.drop p)))/\w=w':=by
 go_enter Tryz.func138,Tryz.ntmps138
 go_wp2
 go_loop [7] (fun n=>∃k:Nat,p+k<=s.size/\n=oH oO k/\Hid (Sn s p k)) (fun n=>s.size-(intOf n).toNat)
 case atStart=>exact⟨0,nX,rfl,Hd ⟨nX,oA⟩⟩
 case round=>
  obtain⟨k,J,rfl,t⟩:=hrel;by_cases I:p+k<s.size
  ·have C:=Hd (H6 s (p+k) I)
   have o:=Hd (S6 s[p+k] w);cases j:FT s[p+k] with
   | true=>
    rw[j]at o;have l:Hid (Sn s p (k+1)):=Hd ⟨nX,by have i:=t.2;rw[C.out,Mx,if_pos j]at i;rw[i];show k+(Ci FT (s.data.toList.drop (p+k+1))+1)=k+1+Ci FT (s.data.toList.drop (p+(k+1)));rw[Nat.add_assoc p k 1];omega⟩
    clear j;go_wp2_with (go_at_call 137;refine o.mono ?_;rintro e w' ⟨rfl,rfl⟩)
    go_round
    case rel=>exact⟨k+1,nX,oD,l⟩
    case measure=>simp[intOf];omega
   | false=>
    rw[j]at o;have l:Hid (Ci FT (s.data.toList.drop p)=k):=Hd (by have i:=t.2;rw[C.out,Mx,j]at i;simpa using i)
    clear j;go_wp2_with (go_at_call 137;refine o.mono ?_;rintro e w' ⟨rfl,rfl⟩)
    go_ret;exact⟨FU l.symm,rfl⟩
  ·have l:Hid (Ci FT (s.data.toList.drop p)=k):=Hd (by
    have i:=t.2;rw[show s.data.toList.drop (p+k)=[] from List.drop_of_length_le oC]at i;simpa [Ci] using i)
   go_wp2;go_ret;exact⟨FU l.symm,rfl⟩
def Va(s:ByteArray)(p k:Nat):Prop:=p+k<=s.size/\Ci CE (s.data.toList.drop p)=k+Ci CE (s.data.toList.drop (p+k))
def Vm(s:ByteArray)(R:s.size<=4611686018427387904)(p:Nat)(P:p<=s.size)(w:oU):() 138 #[oJ s,p,.func (.func 142) #[] #[]] w fun e w'=>e=oQ (oH oO (Ci CE (s.data.toList.drop p)))/\w=w':=by
 go_enter Tryz.func138,Tryz.ntmps138
 go_wp2
 go_loop [7] (fun n=>∃k:Nat,p+k<=s.size/\n=oH oO k/\Hid (Va s p k)) (fun n=>s.size-(intOf n).toNat)
 case atStart=>exact⟨0,nX,rfl,Hd ⟨nX,oA⟩⟩
 case round=>
  obtain⟨k,J,rfl,t⟩:=hrel;by_cases I:p+k<s.size
  ·have C:=Hd (H6 s (p+k) I)
   have o:=Hd (X3 s[p+k] w);cases j:CE s[p+k] with
   | true=>
    rw[j]at o;have l:Hid (Va s p (k+1)):=Hd ⟨nX,by have i:=t.2;rw[C.out,Mx,if_pos j]at i;rw[i];show k+(Ci CE (s.data.toList.drop (p+k+1))+1)=k+1+Ci CE (s.data.toList.drop (p+(k+1)));rw[Nat.add_assoc p k 1];omega⟩
    clear j;go_wp2_with (go_at_call 142;refine o.mono ?_;rintro e w' ⟨rfl,rfl⟩)
    go_round
    case rel=>exact⟨k+1,nX,oD,l⟩
    case measure=>simp[intOf];omega
   | false=>
    rw[j]at o;have l:Hid (Ci CE (s.data.toList.drop p)=k):=Hd (by have i:=t.2;rw[C.out,Mx,j]at i;simpa using i)
    clear j;go_wp2_with (go_at_call 142;refine o.mono ?_;rintro e w' ⟨rfl,rfl⟩)
    go_ret;exact⟨FU l.symm,rfl⟩
  ·have l:Hid (Ci CE (s.data.toList.drop p)=k):=Hd (by
    have i:=t.2;rw[show s.data.toList.drop (p+k)=[] from List.drop_of_length_le oC]at i;simpa [Ci] using i)
   go_wp2;go_ret;exact⟨FU l.symm,rfl⟩
def G0(k:Int)(i:(k==0)=false)(p:Int)(w:oU):() 64 #[k,p] w fun e w'=>e=oQ (.iface 171 (w,0))/\w'=w.alloc (oP #[k,p] 173):=by
 go_enter Tryz.func64,Tryz.ntmps64
 go_wp2;go_ret;exact⟨rfl,rfl⟩
def J7(w:oU)(v:oV)(f:Bp):Prop:=∃b,v=.iface 171 (.pointer (oM ⟨b,0,oN⟩))/\Ah w b 173 #[f.1,f.2]
def J7.new(w:oU)(e p:Nat):J7 (w.alloc (oP #[e,p] 173)) (.iface 171 (w,0)) (e,p):=⟨_,rfl,Ah.new _ _ _⟩
def EC(w:oU)(r:Except Bp (Nat×Nat))(e:Ending)(w':oU):Prop:=
 Below w w w'/\match r with
 | .ok (k,n)=>e=oQ (.tuple #[n,.nilIface])
 | .error f=>∃v,e=oQ (.tuple #[oH oO 0,v])/\J7 w' v f
def EC.err(w:oU)(e p:Nat):EC w (.error (e,p)) (oQ (.tuple #[oH oO 0,.iface 171 (w,0)])) (w.alloc (oP #[e,p] 173)):=
 ⟨AG _ _,_,rfl,.new _ _ _⟩
def EC.KX(w:oU)(e p:Nat)(q:Int)(h:q=p):EC w (.error (e,p)) (oQ (.tuple #[oH oO 0,.iface 171 (w,0)])) (w.alloc (oP #[e,q] 173)):=by subst h;exact .err w e p
def EC.IK(w:oU)(k n:Nat)(q:Int)(h:q=n):EC w (.ok (k,n)) (oQ (.tuple #[q,.nilIface])) w:=by subst h;exact⟨Below.refl _ _,rfl⟩
def dE(s:ByteArray)(p k:Nat)(h:p+(1+k)<s.size):(s.data.toList.drop (p+1))[k]?=oM s[p+(1+k)]:=by rw[List.getElem?_drop,Nat.add_assoc];exact get_some s _ h
def lG(s:ByteArray)(hs:s.size<=4611686018427387904)(p:Nat)(hp:p<s.size)(w:oU):() 140 #[oJ s,p] w (EC w (JQ s.size p (s.data.toList.drop (p+1)))):=by
 have j:=Hd (O9 s hs (p+1) nX w);have hk:Bt (s.data.toList.drop (p+1))<s.size:=by have:=R8 (s.data.toList.drop (p+1));simp only[List.length_drop,Iz]at this;omega
 have I:=dE s p (Bt (s.data.toList.drop (p+1)));unfold JQ;generalize Bt (s.data.toList.drop (p+1))=k at *;generalize s.data.toList.drop (p+1)=r at *;have J:(p:Int)+1=((p+1:Nat):Int):=by omega
 rw[<-J]at j;have R:(p:Int)+(1+(k:Int))=((p+1+k:Nat):Int):=by omega
 by_cases t:s.size<=p+1+k
 ·rw[if_pos t]
  have q1:(s.size:Int)<=(p:Int)+(1+(k:Int)):=by omega
  clear I t J R;go_enter Tryz.func140,Tryz.ntmps140
  go_wp2_with fail
  refine j.mono ?_;rintro e i ⟨rfl,rfl⟩;go_wp2_with (go_at_call 64;refine(G0 _ rfl _ _).mono ?_;rintro e i ⟨rfl,rfl⟩)
  go_ret2
  exact EC.err _ _ _
 rw[if_neg t];have a0:p+(1+k)<s.size:=by omega
 have P:=I a0;rw[P];clear I P J R;have q1:¬(s.size:Int)<=(p:Int)+(1+(k:Int)):=by omega
 have q2:(p:Int)+(1+(k:Int))<(s.size:Int):=by omega
 by_cases l:s[p+(1+k)]=39
 ·have U:((s[p+(1+k)].toNat:Int) != 39)=false:=by rw[l];rfl
  rw[l];clear l;by_cases C:k=0
  ·subst C
   rw[if_pos (.inr rfl)];go_enter Tryz.func140,Tryz.ntmps140
   go_wp2_with fail
   refine j.mono ?_;rintro e i ⟨rfl,rfl⟩;go_wp2_with (go_at_call 64;refine(G0 _ rfl _ _).mono ?_;rintro e i ⟨rfl,rfl⟩)
   go_ret2
   exact EC.KX _ 2 (p+1+0) _ nX
  ·rw[if_neg (by rintro(h|h)<;>simp_all)]
   have h7:((1:Int)+(k:Int)==1)=false:=bN.2 nX;by_cases o:24<=1+k
   ·rw[if_pos o]
    have T:24<=(1:Int)+(k:Int):=by omega
    clear C o;go_enter Tryz.func140,Tryz.ntmps140
    go_wp2_with fail
    refine j.mono ?_;rintro e i ⟨rfl,rfl⟩;go_wp2_with (go_at_call 64;refine(G0 _ rfl _ _).mono ?_;rintro e i ⟨rfl,rfl⟩)
    go_ret2
    exact EC.err _ 5 p
   ·rw[if_neg o]
    have T:¬24<=(1:Int)+(k:Int):=by omega
    clear C o;go_enter Tryz.func140,Tryz.ntmps140
    go_wp2_with fail
    refine j.mono ?_;rintro e i ⟨rfl,rfl⟩;go_wp2
    go_ret2
    exact EC.IK _ 2 (k+2) _ nX
 ·have U:((s[p+(1+k)].toNat:Int) != 39)=true:=by
   rw[bne_iff_ne];intro e;exact l (UInt8.toNat_inj.1 (by show s[p+(1+k)].toNat=39;omega))
  rw[if_pos (.inl (by simpa using l))];clear l;go_enter Tryz.func140,Tryz.ntmps140
  go_wp2_with fail
  refine j.mono ?_;rintro e i ⟨rfl,rfl⟩;go_wp2_with (go_at_call 64;refine(G0 _ rfl _ _).mono ?_;rintro e i ⟨rfl,rfl⟩)
  go_ret2
  exact EC.KX _ 2 (p+1+k) _ nX
def G2(w:oU):Prop:=∃m:Int,oT w (2,0)=oM (oH oO m)
def G2.later{w:oU}(h:G2 w)(j:Below w w w'):G2 w':=by obtain⟨m,i⟩:=h;exact⟨m,(j.cell (p:=⟨2,0,oN⟩) (World.block_lt_of_cell? w _ i)).trans i⟩
def NP(s:ByteArray)(p:Nat):(s.extract p s.size).data.toList=s.data.toList.drop p:=by rw[Lib.extract_data];exact Da oA
theorem index_le(sub:List UInt8):∀(l:List UInt8),Lib.index l sub<=l.length
 | []=>by unfold Lib.index;split<;>simp
 | b::l=>by
  have i:=index_le sub l;unfold Lib.index;split
  ·exact Int.natCast_nonneg _
  ·split
   ·simp;omega
   ·rw[List.length_cons];omega
theorem SZ(c d:UInt8)(r:List UInt8):Lib.hasPrefix (c::r) [c,d]=(r.head?==oM d):=by
 unfold Lib.hasPrefix;cases r with
 | nil=>simp[List.isPrefixOf]
 | cons a l=>simp[List.isPrefixOf];exact Bool.beq_comm
def gZ(s:ByteArray)(p:Nat):(s.data.toList.drop (p+1)).drop 1=s.data.toList.drop (p+2):=by rw[List.drop_drop]
def Yw{s:ByteArray}{p:Nat}{c:UInt8}(h:(s.data.toList.drop (p+1)).head?=oM c):p+1<s.size:=by rw[List.head?_drop]at h;have:=(sG.1 h).1;simpa using this
def X9(s:ByteArray)(hs:s.size<=8192)(p:Nat)(hp:p<s.size)(P:s[p]=47)(w:oU)(j:G2 w):() 139 #[oJ s,p] w (EC w (JM s.size p (s.data.toList.drop (p+1)))):=by
 obtain⟨m,j⟩:=j;have a0:Lib.hasPrefix (s.extract p s.size).data.toList [47,42]=((s.data.toList.drop (p+1)).head?==oM 42):=by rw[NP,H6 s p hp,P,SZ]
 have I:=Tryz.strings_HasPrefix (s.extract p s.size) ⟨#[47,42]⟩ w;rw[a0]at I;have l:=Hd I;clear I a0 P;have T:=gZ s p;have t:=@Yw s p 42;unfold JM;rw[T];clear T;generalize hr:(s.data.toList.drop (p+1)).head?=a1 at *;clear hr;by_cases o:a1=oM 42
 ·subst o
  have a3:=t rfl;clear t;have U:(s.extract (p+2) s.size).data.toList=s.data.toList.drop (p+2):=NP s (p+2);have C:=Tryz.strings_Index (s.extract (p+2) s.size) ⟨#[42,47]⟩ m w (by rw[ByteArray.size_extract];omega) j;rw[U]at C;have J:=Hd C;clear C U j;rw[if_pos rfl];generalize hk:Lib.index (s.data.toList.drop (p+2)) (⟨#[42,47]⟩:ByteArray).data.toList=k at *;have a2:k<=8192 /\ -1<=k:=by rw[<-hk];have h1:=index_le (⟨#[42,47]⟩:ByteArray).data.toList (s.data.toList.drop (p+2));have h2:=Lib.index_ge (s.data.toList.drop (p+2)) (⟨#[42,47]⟩:ByteArray).data.toList;rw[List.length_drop,Iz]at h1;omega
  clear hk;by_cases h0:k<0
  ·rw[if_pos h0]
   go_enter Tryz.func139,Tryz.ntmps139
   go_wp2_with (first
    | (go_at_call 31;refine l.mono ?_;rintro e i ⟨rfl,rfl⟩)
    | (go_at_call 192;refine J.mono ?_;rintro e i ⟨rfl,rfl⟩)
    | (go_at_call 64;refine(G0 _ rfl _ _).mono ?_;rintro e i ⟨rfl,rfl⟩))
   go_ret2
   exact EC.err _ 4 _
  ·rw[if_neg h0]
   obtain⟨k1,k2⟩:=a2;go_enter Tryz.func139,Tryz.ntmps139
   go_wp2_with (first
    | (go_at_call 31;refine l.mono ?_;rintro e i ⟨rfl,rfl⟩)
    | (go_at_call 192;refine J.mono ?_;rintro e i ⟨rfl,rfl⟩)
    | (go_at_call 64;refine(G0 _ rfl _ _).mono ?_;rintro e i ⟨rfl,rfl⟩))
   go_ret2
   exact EC.IK _ 0 _ _ nX
 ·rw[if_neg o]
  have R:(a1==oM 42)=false:=by simpa using o
  rw[R]at l;clear o R t j;go_enter Tryz.func139,Tryz.ntmps139
  go_wp2_with (first
   | (go_at_call 31;refine l.mono ?_;rintro e i ⟨rfl,rfl⟩)
   | (go_at_call 64;refine(G0 _ rfl _ _).mono ?_;rintro e i ⟨rfl,rfl⟩))
  go_ret2
  exact EC.err _ 2 p
def Fm(w:oU)(r:Except Bp (Nat×Nat))(e:Ending)(w':oU):Prop:=
 Below w w w'/\match r with
 | .ok (k,n)=>e=oQ (.tuple #[k,n,.nilIface])
 | .error f=>∃(k:Int) (v:oV),e=oQ (.tuple #[k,oH oO 0,v])/\J7 w' v f
def Fm.KX(w:oU)(e p:Nat)(k q:Int)(h:q=p):Fm w (.error (e,p)) (oQ (.tuple #[k,oH oO 0,.iface 171 (w,0)])) (w.alloc (oP #[e,q] 173)):=by subst h;exact⟨AG _ _,k,_,rfl,.new _ _ _⟩
def Fm.IK(w:oU)(k n:Nat)(q:Int)(h:q=n):Fm w (.ok (k,n)) (oQ (.tuple #[k,q,.nilIface])) w:=by subst h;exact⟨Below.refl _ _,rfl⟩
def Vp(s:ByteArray)(p n:Nat):(s.extract p (p+n)).data.toList=(s.data.toList.drop p).take n:=by rw[Lib.extract_data,Nat.add_sub_cancel_left]
def YW(s:ByteArray)(hs:s.size<=8192)(p:Nat)(hp:p<s.size)(i:s[p]=37)(w:oU):() 141 #[oJ s,p] w (Fm w (KL p (s.data.toList.drop (p+1)))):=by
 have U:Lib.hasPrefix (s.extract p s.size).data.toList [37,37]=((s.data.toList.drop (p+1)).head?==oM 37):=by rw[NP,H6 s p hp,i,SZ]
 have J:=Tryz.strings_HasPrefix (s.extract p s.size) ⟨#[37,37]⟩ w;rw[U]at J;have o:=Hd J;clear J U i;unfold KL;by_cases i:(s.data.toList.drop (p+1)).head?=oM 37
 ·rw[if_pos i]
  rw[show ((s.data.toList.drop (p+1)).head?==oM 37)=true by rw[i];rfl]at o;clear i;go_enter Tryz.func141,Tryz.ntmps141
  go_wp2_with (go_at_call 31;refine o.mono ?_;rintro e l ⟨rfl,rfl⟩)
  go_ret3
  exact Fm.IK _ 6 2 _ rfl
 rw[if_neg i];rw[show ((s.data.toList.drop (p+1)).head?==oM 37)=false by simpa using i]at o;clear i;have t:=Hd (Vm s nX (p+1) nX w);have hk:Ci CE (s.data.toList.drop (p+1))<=s.size-(p+1):=by have:=NM CE (s.data.toList.drop (p+1));simp only[List.length_drop,Iz]at this;omega
 have I:=Vp s (p+1) (Ci CE (s.data.toList.drop (p+1)));generalize Ci CE (s.data.toList.drop (p+1))=k at *;rw[<-I];have C:(p:Int)+1=((p+1:Nat):Int):=by omega
 rw[<-C]at t;have b1:(p:Int)+1+(k:Int)<=(s.size:Int):=by omega
 have b2:p+1+k<=s.size:=by omega
 generalize P:s.extract (p+1) (p+1+k)=x at *;have j:x.toList=x.data.toList:=Lib.toList_data x;cases T:(x.toList==[116,111,107,101,110]) with
 | true=>
  rw[if_pos (by rw[<-j];exact beq_iff_eq.1 T)];subst P;clear j I C;go_enter Tryz.func141,Tryz.ntmps141
  go_wp2_with (first
   | (go_at_call 31;refine o.mono ?_;rintro e l ⟨rfl,rfl⟩)
   | (go_at_call 138;refine t.mono ?_;rintro e l ⟨rfl,rfl⟩))
  go_ret3
  exact Fm.IK _ 7 _ _ nX
 | false=>
  rw[if_neg (by rw[<-j];simpa using T)];cases R:(x.toList==[115,116,97,114,116]) with
  | true=>
   rw[if_pos (by rw[<-j];exact beq_iff_eq.1 R)];subst P;clear j I C;go_enter Tryz.func141,Tryz.ntmps141
   go_wp2_with (first
    | (go_at_call 31;refine o.mono ?_;rintro e l ⟨rfl,rfl⟩)
    | (go_at_call 138;refine t.mono ?_;rintro e l ⟨rfl,rfl⟩))
   go_ret3
   exact Fm.IK _ 8 _ _ nX
  | false=>
   rw[if_neg (by rw[<-j];simpa using R)];subst P;clear j I C;go_enter Tryz.func141,Tryz.ntmps141
   go_wp2_with (first
    | (go_at_call 31;refine o.mono ?_;rintro e l ⟨rfl,rfl⟩)
    | (go_at_call 138;refine t.mono ?_;rintro e l ⟨rfl,rfl⟩)
    | (go_at_call 64;refine(G0 _ rfl _ _).mono ?_;rintro e l ⟨rfl,rfl⟩))
   go_ret3
   exact Fm.KX _ 2 p _ _ rfl
theorem EC.one{w:oU}{r:Except Bp (Nat×Nat)}{e:Ending}(h:EC w r e w'):∃(n:Int) (v:oV),e=oQ (.tuple #[oH oO n,v]) /\
  ∀K:Nat,(∀k n,r=.ok (k,n)->k=K)->Fm w r (oQ (.tuple #[oH oO K,oH oO n,v])) w':=by
 obtain⟨i,h⟩:=h;cases r with
 | error f=>obtain⟨v,rfl,l⟩:=h;exact⟨0,v,rfl,fun K _=>⟨i,K,v,rfl,l⟩⟩
 | ok q=>obtain⟨k,n⟩:=q;exact⟨n,.nilIface,h,fun K j=>by obtain rfl:=j k n rfl;exact⟨i,rfl⟩⟩
def Pe(c:UInt8)(n:Nat)(i:n<256):((c.toNat:Int)==(n:Int))=(c==UInt8.ofNat n):=by rw[Bool.eq_iff_iff,beq_iff_eq,beq_iff_eq,<-UInt8.toNat_inj];rw[UInt8.toNat_ofNat',Nat.mod_eq_of_lt i];omega
def XM{p:Nat}{r:List UInt8}:∀k n,JQ sz p r=.ok (k,n)->k=2:=by
 intro k n h;unfold JQ at h;split at h;· cases h
 split at h;· cases h
 split at h;· cases h
 injection h with h;exact(Prod.mk.inj h).1.symm
def WO{p:Nat}{r:List UInt8}:∀k n,JM sz p r=.ok (k,n)->k=0:=by
 intro k n h;unfold JM at h;split at h
 ·split at h
  ·cases h
  ·injection h with h;exact(Prod.mk.inj h).1.symm
 ·cases h
theorem kB(s:ByteArray)(hs:s.size<=8192)(p:Nat)(hp:p<s.size)(w:oU)(hm:G2 w):() 95 #[oJ s,p] w (Fm w (GJ s.size p (s.data.toList.drop p))):=by
 have j:=Hd (S6 s[p] w);have a2:=Pe s[p] 47 nY;have T:=Pe s[p] 39 nY;have J:=Pe s[p] 37 nY;have hd:=H6 s p hp;unfold GJ;rw[hd];simp only;rw[<-hd];clear hd;cases hw:FT s[p] with
 | true=>
  rw[hw]at j;rw[if_pos rfl];have a1:=Hd (YR s nX p nX w);clear hw a2 T J;go_enter Tryz.func95,Tryz.ntmps95
  go_wp2_with (first
   | (go_at_call 137;refine j.mono ?_;rintro e i ⟨rfl,rfl⟩)
   | (go_at_call 138;refine a1.mono ?_;rintro e i ⟨rfl,rfl⟩))
  go_ret3
  exact Fm.IK _ 0 _ _ rfl
 | false=>
 rw[hw]at j;rw[if_neg nY];clear hw;by_cases C:s[p]=47
 ·rw[if_pos C]
  have a7:((s[p].toNat:Int)==47)=true:=by rw[C];rfl
  have I:=Hd (X9 s hs p hp C w hm);clear a2 T J C;go_enter Tryz.func95,Tryz.ntmps95
  go_wp2_with (first
   | (go_at_call 137;refine j.mono ?_;rintro e i ⟨rfl,rfl⟩)
   | (go_at_call 139;refine I.mono ?_;intro e i l;obtain⟨n,v,rfl,a0⟩:=l.one;clear l;have o:=Hd (a0 0 WO);clear a0))
  go_ret3
  exact o
 rw[if_neg C];have a7:((s[p].toNat:Int)==47)=false:=by rw[show ((s[p].toNat:Int)==47)=_ from a2];exact bN.2 C
 clear a2 C;by_cases P:s[p]=39
 ·rw[if_pos P]
  have a6:((s[p].toNat:Int)==39)=true:=by rw[P];rfl
  have I:=Hd (lG s nX p hp w);clear T J P;go_enter Tryz.func95,Tryz.ntmps95
  go_wp2_with (first
   | (go_at_call 137;refine j.mono ?_;rintro e i ⟨rfl,rfl⟩)
   | (go_at_call 140;refine I.mono ?_;intro e i l;obtain⟨n,v,rfl,a0⟩:=l.one;clear l;have o:=Hd (a0 2 XM);clear a0))
  go_ret3
  exact o
 rw[if_neg P];have a6:((s[p].toNat:Int)==39)=false:=by rw[show ((s[p].toNat:Int)==39)=_ from T];exact bN.2 P
 clear T P;by_cases t:s[p]=37
 ·rw[if_pos t]
  have a5:((s[p].toNat:Int)==37)=true:=by rw[t];rfl
  have I:=Hd (YW s hs p hp t w);clear J t;generalize KL p (s.data.toList.drop (p+1))=a8 at *;cases a8 with
  | ok q=>
   obtain⟨k,n⟩:=q;go_enter Tryz.func95,Tryz.ntmps95
   go_wp2_with (first
    | (go_at_call 137;refine j.mono ?_;rintro e i ⟨rfl,rfl⟩)
    | (go_at_call 141;refine I.mono ?_;intro e i l;obtain⟨hb,rfl⟩:=l;have o:=Hd hb;clear hb))
   go_ret3
   exact⟨o,rfl⟩
  | error f=>
   go_enter Tryz.func95,Tryz.ntmps95
   go_wp2_with (first
    | (go_at_call 137;refine j.mono ?_;rintro e i ⟨rfl,rfl⟩)
    | (go_at_call 141;refine I.mono ?_;intro e i l;obtain⟨hb,k,v,rfl,hv⟩:=l;have o:=Hd hb;have HV:=Hd hv;clear hb hv))
   go_ret3
   exact⟨o,_,_,rfl,HV⟩
 rw[if_neg t];have a5:((s[p].toNat:Int)==37)=false:=by rw[show ((s[p].toNat:Int)==37)=_ from J];exact bN.2 t
 clear J t;have R:=Hd (I4 s[p] w);by_cases U:Bo s[p]=4
 ·rw[if_pos U]
  rw[U]at R;clear U;have a1:=Hd (Vm s nX p nX w);generalize Ci CE (s.data.toList.drop p)=k at *;by_cases a3:24<k
  ·rw[if_pos a3]
   have a4:(24:Int)<(k:Int):=by omega
   clear a3;go_enter Tryz.func95,Tryz.ntmps95
   go_wp2_with (first
    | (go_at_call 137;refine j.mono ?_;rintro e i ⟨rfl,rfl⟩)
    | (go_at_call 53;refine R.mono ?_;rintro e i ⟨rfl,rfl⟩)
    | (go_at_call 138;refine a1.mono ?_;rintro e i ⟨rfl,rfl⟩)
    | (go_at_call 64;refine(G0 _ rfl _ _).mono ?_;rintro e i ⟨rfl,rfl⟩))
   go_ret3
   exact Fm.KX _ 5 p _ _ rfl
  ·rw[if_neg a3]
   have a4:¬(24:Int)<(k:Int):=by omega
   clear a3;go_enter Tryz.func95,Tryz.ntmps95
   go_wp2_with (first
    | (go_at_call 137;refine j.mono ?_;rintro e i ⟨rfl,rfl⟩)
    | (go_at_call 53;refine R.mono ?_;rintro e i ⟨rfl,rfl⟩)
    | (go_at_call 138;refine a1.mono ?_;rintro e i ⟨rfl,rfl⟩))
   go_ret3
   exact Fm.IK _ 1 k _ rfl
 rw[if_neg U];have q4:((Bo s[p]:Int)==4)=false:=bN.2 nX;clear U;have HS:=Hd (Ws s[p] w);generalize Bo s[p]=cl at *;by_cases h0:Jh s[p]=0
 ·rw[if_neg (by simpa using h0)]
  rw[h0]at HS;clear h0;go_enter Tryz.func95,Tryz.ntmps95
  go_wp2_with (first
   | (go_at_call 137;refine j.mono ?_;rintro e i ⟨rfl,rfl⟩)
   | (go_at_call 53;refine R.mono ?_;rintro e i ⟨rfl,rfl⟩)
   | (go_at_call 143;refine HS.mono ?_;rintro e i ⟨rfl,rfl⟩)
   | (go_at_call 64;refine(G0 _ rfl _ _).mono ?_;rintro e i ⟨rfl,rfl⟩))
  go_ret3
  exact Fm.KX _ 2 p _ _ rfl
 ·rw[if_pos h0]
  generalize Jh s[p]=sg at *;have q0:((sg:Int) != 0)=true:=bne_iff_ne.2 nX;clear h0;go_enter Tryz.func95,Tryz.ntmps95
  go_wp2_with (first
   | (go_at_call 137;refine j.mono ?_;rintro e i ⟨rfl,rfl⟩)
   | (go_at_call 53;refine R.mono ?_;rintro e i ⟨rfl,rfl⟩)
   | (go_at_call 143;refine HS.mono ?_;rintro e i ⟨rfl,rfl⟩))
  go_ret3
  exact Fm.IK _ sg 1 _ rfl
theorem Ry{p:Nat}{l:List UInt8}{k:Nat}(i:GJ sz p l=.ok (k,n))(a0:sz=p+l.length):n<=l.length:=by
 unfold GJ at i;cases l with
 | nil=>injection i with i;obtain⟨rfl,rfl⟩:=Prod.mk.inj i;simp
 | cons c r=>
  simp only at i;split at i
  ·injection i with i
   obtain⟨rfl,rfl⟩:=Prod.mk.inj i;exact NM _ _
  split at i
  ·unfold JM at i
   split at i
   ·rename_i P
    split at i
    ·cases i
    ·rename_i h0
     injection i with i;obtain⟨rfl,rfl⟩:=Prod.mk.inj i;cases r with
     | nil=>cases P
     | cons d t=>
      simp only[List.drop_succ_cons,List.drop_zero]at h0 ⊢;have T:(Lib.index t [42,47]).toNat+2<=t.length:=by
       rcases Lib.index_spec t [42,47] with⟨C,_⟩|⟨a1,C,_,j,_⟩
       ·omega
       ·rcases Lib.occAt_room j with o|o
        ·rw[C];simpa using o
        ·cases o
      simp;omega
   ·cases i
  split at i
  ·unfold JQ at i
   split at i;· cases i
   split at i;· cases i
   rename_i j;split at i;· cases i
   injection i with i;obtain⟨rfl,rfl⟩:=Prod.mk.inj i;have I:r[Bt r]?=oM 39:=by
    by_cases h:r[Bt r]?=oM 39
    ·exact h
    ·exact absurd (.inl h) j
   have R:Bt r<r.length:=(sG.1 I).1;simp;omega
  split at i
  ·have U:=NM CE r
   unfold KL at i;split at i
   ·rename_i J
    injection i with i;obtain⟨rfl,rfl⟩:=Prod.mk.inj i;cases r with
    | nil=>cases J
    | cons d t=>simp
   split at i
   ·injection i with i;obtain⟨rfl,rfl⟩:=Prod.mk.inj i;simp;omega
   split at i
   ·injection i with i;obtain⟨rfl,rfl⟩:=Prod.mk.inj i;simp;omega
   ·cases i
  split at i
  ·split at i
   ·cases i
   injection i with i;obtain⟨rfl,rfl⟩:=Prod.mk.inj i;exact NM _ _
  split at i
  ·injection i with i
   obtain⟨rfl,rfl⟩:=Prod.mk.inj i;simp
  ·cases i
def Tk.cells(t:Tk):List oV:=[oH oO t.k,oJ (str t.s),oH oO t.p]
def Tk.MW(t:Tk):t.cells.length=3:=rfl
def L5:El Tryz.prog 126 170 3 32:=El.of (z:=.agg #[oH oO 0,oJ ⟨#[]⟩,oH oO 0]) Tryz.underlying126 nZ rfl nY
def Mj(y:oU)(a c:Int)(b:ByteArray):Be (y.alloc (oP #[a,oJ b,c] 170)) (oG (y,0) 1 1) 1 3 [oH oO a,oJ b,oH oO c]:=
 Be.Aj (c:=1) (Ah.new y 170 #[a,oJ b,c]) rfl oE
def Td{B:Nat}{i:oU}(h:AI B T (i.alloc o) w2)(j:B<=i.heap.size):Below B i w2:=
 ((AG i o).mono j).trans (h.below oC)
def QZ(i:List Tk):Except Bp (List Tk)->Except Bp (List Tk)
 | .ok j=>.ok (i++j)
 | .error e=>.error e
def G7(s:ByteArray)(p:Nat)(i:List Tk):Prop:=∃f,s.size-p<f/\Fb s.size (s.size+1) 0 s.data.toList=QZ i (Fb s.size f p (s.data.toList.drop p))
def G7.start(s:ByteArray):G7 s 0 []:=⟨s.size+1,nX,by rw[List.drop_zero];generalize Fb s.size (s.size+1) 0 s.data.toList=r;cases r<;>rfl⟩
theorem G7.last{s:ByteArray}{p:Nat}{i:List Tk}(h:G7 s p i)(j:p=s.size):Fb s.size (s.size+1) 0 s.data.toList=.ok (i++[⟨0,[],s.size⟩]):=by
 obtain⟨f,l,h⟩:=h;subst j;rw[h,Lx];cases f with
 | zero=>omega
 | succ f=>rfl
theorem G7.step{s:ByteArray}{p:Nat}{o:List Tk}(h:G7 s p o)(T:p<s.size) :
  match GJ s.size p (s.data.toList.drop p) with
  | .error e=>Fb s.size (s.size+1) 0 s.data.toList=.error e
  | .ok (k,n)=>0<n/\p+n<=s.size/\G7 s (p+n) (if k=0 then o else o++[⟨k,(s.data.toList.drop p).take n,p⟩]):=by
 obtain⟨f,R,h⟩:=h;have t:(s.data.toList.drop p).length=s.size-p:=by rw[List.length_drop,Iz]
 cases f with
 | zero=>omega
 | succ f=>
  have C:(s.data.toList.drop p).isEmpty=false:=by
   cases J:s.data.toList.drop p with
   | nil=>rw[J]at t;simp at t;omega
   | cons a l=>rfl
  cases j:GJ s.size p (s.data.toList.drop p) with
  | error e=>simp only;rw[h];simp only[Fb,C,j];rfl
  | ok q=>
   obtain⟨k,n⟩:=q;simp only;have I:=(PF j).2 nX;have P:=Ry j nX;refine⟨I,nX,f,nX,?_⟩;rw[h];simp only[Fb,C,j];rw[List.drop_drop];cases Fb s.size f (p+n) (s.data.toList.drop (p+n)) with
   | error e=>rfl
   | ok U=>
    simp only[QZ];by_cases i:k=0
    ·rw[if_pos i,if_pos i];rfl
    ·rw[if_neg i,if_neg i];simp
def Wh(w:oU)(r:Except Bp (List Tk))(e:Ending)(w':oU):Prop:=
 Below w w w'/\match r with
 | .ok i=>∃v,e=oQ (.tuple #[v,.nilIface])/\w'.ownsRow w 170 3 v i.length (i.flatMap Tk.cells)
 | .error f=>∃v,e=oQ (.tuple #[oG oN 0 0,v])/\J7 w' v f
def XD(s:ByteArray)(hs:s.size<=4611686018427387904)(w:oU)(hm:G2 w):() 62 #[oJ s] w (Wh w (tokens s.data.toList)):=by
 unfold tokens;rw[Iz];by_cases T:8192<s.size
 ·rw[if_pos T]
  have q1:(8192:Int)<(s.size:Int):=by omega
  clear T;go_enter Tryz.func62,Tryz.ntmps62
  go_wp2;go_step3
  go_wp2_with (go_at_call 64;refine(G0 _ rfl _ _).mono ?_;rintro e w' ⟨rfl,rfl⟩)
  rw[Exit.noGoto_ret]
  go_ret2
  exact⟨AG _ _,_,rfl,J7.new w 5 0⟩
 rw[if_neg T];have q1:¬(8192:Int)<(s.size:Int):=by omega
 have aa:s.size<=8192:=by omega
 have HM:=Hd hm;clear T hm;go_enter Tryz.func62,Tryz.ntmps62
 go_wp2;go_step3
 go_wp2;go_step3
 go_wp2;go_loopw [4,5] (fun v a3 wr=>∃(p:Nat) (i:List Tk),p<=s.size/\a3=oH oO p/\i.length<=p/\(∃A c,v=oG A i.length c)/\Hid (wr.ownsRow w 170 3 v i.length (i.flatMap Tk.cells))/\Hid (Below w w wr)/\Hid (G7 s p i)) (fun _ a3 _=>s.size-(intOf a3).toNat)
 case atStart=>exact⟨0,[],AX _,rfl,Ay _,⟨oN,0,rfl⟩,Hd (World.ownsRow_nil _ _ _ _),Hd (Below.refl _ _),Hd (G7.start s)⟩
 case round=>
  obtain⟨p,i,hp,rfl,ad,⟨A,c,rfl⟩,HO,j,HT⟩:=hrel;by_cases a4:p<s.size
  ·have a9:¬(s.size:Int)<=(p:Int):=by omega
   have C:=Hd (kB s aa p a4 wr (HM.later j));have I:=HT.step a4;cases U:GJ s.size p (s.data.toList.drop p) with
   | error f=>
    rw[U]at C I;have HS:=Hd I;clear I U;go_wp2_with (go_at_call 95;refine C.mono ?_;intro e w1 J;obtain⟨l,k,v,rfl,hv⟩:=J;obtain⟨b,rfl,t⟩:=hv;have o:=Hd l;have HV:=Hd t;clear l t)
    go_ret2
    rw[HS.out];exact⟨j.trans (o.mono j.size),_,rfl,_,rfl,HV⟩
   | ok q=>
    obtain⟨k,n⟩:=q;rw[U]at C I;obtain⟨ae,af,a5⟩:=I;have HN:=Hd a5;have b1:(p:Int)+(n:Int)<=(s.size:Int):=by omega
    have a6:str ((s.data.toList.drop p).take n)=s.extract p (p+n):=by rw[<-Vp,Yn]
    have a8:=Hd a6;clear U a5 a6;by_cases t:k=0
    ·subst t
     have a1:Hid (G7 s (p+n) i):=Hd HN;go_wp2_with (go_at_call 95;refine C.mono ?_;intro e w1 J;obtain⟨l,rfl⟩:=J;have o:=Hd l;clear l)
     go_roundw
     case rel=>exact⟨p+n,i,nX,oD,nX,⟨_,_,rfl⟩,Hd ((AI.AJ (B:=0) (T:=[]) o).own HO (.inr oA)),Hd (j.trans (o.mono j.size)),a1⟩
     case measure=>simp[intOf];omega
    ·have a1:Hid (G7 s (p+n) (i++[⟨k,(s.data.toList.drop p).take n,p⟩])):=Hd (by have:=HN.out;rw[if_neg t]at this;exact this)
     have q0:((k:Int) != 0)=true:=bne_iff_ne.2 nX;clear t;go_wp2_with (first
      | (go_at_call 95;refine C.mono ?_;intro e w1 J;obtain⟨l,rfl⟩:=J;have o:=Hd l;have a7:=Hd ((AI.AJ (B:=0) (T:=[]) l).own HO (.inr oA));have ab:=j.size;have ag:=l.size;clear l)
      | (at_builtin;refine DC L5 (.tmp 29) (.tmp 39) rfl rfl (base:=w.heap.size) (n:=i.length) (m:=1) (N:=i.length+1) (xs:=i.flatMap Tk.cells) (news:=[oH oO k,oJ (s.extract p (p+n)),oH oO p]) rfl rfl (a7.alloc _) (Mj w1 _ _ _) rfl oB nX oC ?_;intro A2 c2 w2 P R r3;have a2:=Hd P;have a0:=Hd (Td R nX);clear P R r3))
     go_roundw
     case rel=>refine⟨p+n,i++[⟨k,(s.data.toList.drop p).take n,p⟩],nX,oD,oC,⟨A2,c2,oA⟩,Hd ?_,Hd ((j.trans (o.mono j.size)).trans a0),a1⟩;have:=a2.out;rw[<-a8.out]at this;simpa [Tk.cells] using this
     case measure=>simp[intOf];omega
  ·have a9:(s.size:Int)<=(p:Int):=by omega
   obtain rfl:p=s.size:=by omega
   have HL:=Hd (HT.last rfl);have ab:=j.size;go_wp2_with (at_builtin;refine DC L5 (.tmp 44) (.tmp 48) rfl rfl (base:=w.heap.size) (n:=i.length) (m:=1) (N:=i.length+1) (xs:=i.flatMap Tk.cells) (news:=[oH oO 0,oJ ⟨#[]⟩,oH oO s.size]) rfl rfl (HO.alloc _) (Mj wr _ _ _) rfl oB nX oC ?_;intro A2 c2 w2 P R r3;have a2:=Hd P;have a0:=Hd (Td R nX);clear P R r3)
   rw[Exit.noGoto_ret]
   go_ret2
   rw[HL.out];refine⟨j.trans a0,_,rfl,?_⟩;have:=a2.out;simpa [Tk.cells,str] using this
def BY(f:Bp)(e:Ending):Prop:=e=.panicked [{v:=.iface 130 (.agg #[f.1,f.2]),recovered:=false}]
def Eg(k p:Int)(w:oU):() 150 #[k,p] w fun e w'=>e=.panicked [{v:=.iface 130 (.agg #[k,p]),recovered:=false}]/\w=w':=by
 go_enter Tryz.func150,Tryz.ntmps150
 go_wp2;exact⟨rfl,rfl,rfl⟩
def BY.of{k p:Int}{f:Bp}(i:k=f.1)(j:p=f.2):BY f (.panicked [{v:=.iface 130 (.agg #[k,p]),recovered:=false}]):=by subst i;subst j;rfl
structure Lb(w:oU)(b off c:Nat)(cs:Array oV)(l:List Tk):Prop where
 Aj:Ah w b 170 cs
 cap:l.length<=c/\c<=maxLen
 cell:∀k t,l[k]?=oM t->cs[off+k*3]?=oM (oH oO t.k)/\cs[off+k*3+1]?=oM (oJ (str t.s))/\cs[off+k*3+2]?=oM (oH oO t.p)
variable{b:Nat}{cs:Array oV}
def Ff(w:oU)(v:oV)(l:List Tk):Prop:=∃b off c i,v=oG (oM ⟨b,off,oN⟩) l.length c/\Lb w b off c i l
def Ff.AA{w:oU}{v:oV}{l:List Tk}(h:Ff w v l)(j:Am X w w')(o:∀g,v.ownBlock=oM g->¬X g):Ff w' v l:=by obtain⟨b,off,c,i,rfl,h⟩:=h;exact⟨b,off,c,i,rfl,j.Aj h.Aj (o b rfl),h.cap,h.cell⟩
def Ff.lt{w:oU}{v:oV}{l:List Tk}(h:Ff w v l):∀g,v.ownBlock=oM g->g<w.heap.size:=by
 obtain⟨b,off,c,j,rfl,h⟩:=h;intro g i;cases i
 exact h.Aj.lt
def Lb.tail{w:oU}{off c:Nat}{t:Tk}{r:List Tk}(h:Lb w b off c cs (t::r)):Lb w b (off+3) (c-1) cs r where
 Aj:=h.Aj
 cap:=by have:=h.cap;simp at this;omega
 cell k u i:=by have:=h.cell (k+1) u i;rw[show off+3+k*3=off+(k+1)*3 by omega];exact this
def Lb.head{w:oU}{off c:Nat}{t:Tk}{r:List Tk}(h:Lb w b off c cs (t::r)) :
  oT w (b,off)=oM (oH oO t.k)/\oT w (b,off+1)=oM (oJ (str t.s))/\oT w (b,off+2)=oM (oH oO t.p):=by
 have:=h.cell 0 t rfl;rw[h.Aj.cell,h.Aj.cell,h.Aj.cell];simpa using this
def Kp{w:oU}{rb:Nat}{t:Tk}{r:List Tk}(h0:oT w (rb,0)=oM lv)(l:Ff w lv (t::r))(k:Nat):() 96 #[(rb,0),k] w fun e w'=>e=oQ (oK (t.k==k))/\w'=w:=by
 obtain⟨b,off,c,p,rfl,h⟩:=l;obtain⟨o,_,_⟩:=h.head;have i:((t.k:Int)==(k:Int))=(t.k==k):=by rw[Bool.eq_iff_iff,beq_iff_eq,beq_iff_eq];omega
 have j:=Hd i;have C:(0:Int)<((t::r).length:Int):=by rw[List.length_cons];omega
 generalize (t::r).length=n at *;clear h i;go_enter Tryz.func96,Tryz.ntmps96
 go_wp2;go_ret;exact⟨Cr j,rfl⟩
theorem Vg{w:oU}{rb:Nat}{t:Tk}{r:List Tk}(h0:oT w (rb,0)=oM lv)(l:Ff w lv (t::r)):() 144 #[(rb,0)] w fun e w'=>e=oQ (oK (Bi t))/\w'=w:=by
 have i:=Hd (Kp h0 l 1);have o:=Hd (Kp h0 l 2);unfold Bi;clear h0 l;cases j:(t.k==1) with
 | true=>
  rw[j]at i;clear j;go_enter Tryz.func144,Tryz.ntmps144
  go_wp2_with (go_at_call 96;refine i.mono ?_;rintro e w' ⟨rfl,rfl⟩)
  go_ret;exact⟨rfl,rfl⟩
 | false=>
  rw[j]at i;clear j;go_enter Tryz.func144,Tryz.ntmps144
  go_wp2_with fail
  refine i.mono ?_;rintro e w' ⟨rfl,rfl⟩;go_wp2_with fail
  refine o.mono ?_;rintro e w' ⟨rfl,rfl⟩;go_wp2;go_ret;exact⟨oA,rfl⟩
def Q4{w:oU}{rb:Nat}{t:Tk}{r:List Tk}(h0:oT w (rb,0)=oM lv)(o:Ff w lv (t::r)):() 145 #[(rb,0)] w fun e w'=>BY (DR (t::r)) e/\w'=w:=by
 have j:=Hd (Kp h0 o 0);obtain⟨b,off,c,p,rfl,h⟩:=o;obtain⟨_,_,c2⟩:=h.head;have C:(0:Int)<((t::r).length:Int):=by rw[List.length_cons];omega
 have l:DR (t::r)=(if t.k=0 then 4 else 3,t.p):=rfl;rw[l];clear h l;generalize (t::r).length=n at *;by_cases i:t.k=0
 ·rw[if_pos i]
  rw[show (t.k==0)=true by simp[i]]at j;clear i;go_enter Tryz.func145,Tryz.ntmps145
  go_wp2_with (first
   | (go_at_call 96;refine j.mono ?_;rintro e w' ⟨rfl,rfl⟩)
   | (go_at_call 150;refine(Eg _ _ _).mono ?_;rintro e w' ⟨rfl,rfl⟩))
  exact⟨rfl,BY.of rfl rfl,rfl⟩
 ·rw[if_neg i]
  rw[show (t.k==0)=false by simp[i]]at j;clear i;go_enter Tryz.func145,Tryz.ntmps145
  go_wp2_with (first
   | (go_at_call 96;refine j.mono ?_;rintro e w' ⟨rfl,rfl⟩)
   | (go_at_call 150;refine(Eg _ _ _).mono ?_;rintro e w' ⟨rfl,rfl⟩))
  exact⟨rfl,BY.of rfl rfl,rfl⟩
def Tk.val(t:Tk):oV:=.agg #[t.k,oJ (str t.s),t.p]
def MV(w:oU)(rb:Nat)(j l o p C:oV)(lv:oV)(t:Tk)(r:List Tk)(e:Ending)(w':oU):Prop:=
 e=oQ t.val/\Am (·=rb) w w'/\∃i,Ah w' rb 136 #[i,j,l,o,p,C]/\Ff w' i r/\i.ownBlock=lv.ownBlock
def NQ{w:oU}{rb:Nat}{l o p:oV}{t:Tk}{r:List Tk}(i:Ah w rb 136 #[lv,l,o,p,C,I])(hl:Ff w lv (t::r))(R:r≠[])(P:lv.ownBlock≠oM rb):() 98 #[(rb,0)] w (MV w rb l o p C I lv t r):=by
 obtain⟨b,off,c,U,rfl,h⟩:=hl;obtain⟨c0,c1,c2⟩:=h.head;have a2:b≠rb:=fun e=>P (by rw[e];rfl)
 have a1:=i.cell 0;have a5:=i.frozen 0;simp at a1;have a6:=i.lt;have a7:=h.Aj.lt;have hT:=Hd h;have J:=h.cap;have a8:0<r.length:=List.length_pos_iff.2 R;simp only[List.length_cons]at J;have T:=Hd i;clear h i R P;obtain⟨a4,a3⟩:=J;unfold maxLen at a3;rw[show (t::r).length=r.length+1 from rfl];have q1:¬c=1:=by omega
 have q2:(0:Int)<(r.length:Int)+1:=by omega
 have q3:(1:Int)<=(r.length:Int)+1:=by omega
 have q4:(r.length:Int)+1<=(c:Int):=by omega
 go_enter Tryz.func98,Tryz.ntmps98
 go_wp2;refine bodyPost_ret (v:=t.val) (by simp[results,Tryz.results98,go_sem,Tk.val]) rfl ⟨rfl,?_,?_⟩
 ·exact(((Am.refl (·=rb) w).set (p:=⟨rb,0,oN⟩) (.inr rfl) _).alloc _).alloc _
 ·have a0:=(((T.Ba 0 (oG (b,off+3) r.length (c-1))).alloc (oP #[t.k,oJ (str t.s),t.p] 170)).alloc (oP #[t.k,oJ (str t.s),t.p] 170))
  refine⟨_,by simpa using a0,⟨b,off+3,c-1,U,rfl,?_⟩,rfl⟩;have j:=hT.tail;exact⟨((j.Aj.Bz (p:=⟨rb,0,oN⟩) (by simpa using a2) _).alloc _).alloc _,j.cap,j.cell⟩
def aA{w:oU}{rb:Nat}{t:Tk}{r:List Tk}(h0:oT w (rb,0)=oM lv)(C:Ff w lv (t::r))(k:Nat)(p:(t.k==k)=false):() 146 #[(rb,0),k] w fun e w'=>BY (DR (t::r)) e/\Below w w w':=by
 have l:=AG w (oP #[oH oO 0,oJ ⟨#[]⟩,oH oO 0] 170);have i:=(l.cell (p:=⟨rb,0,oN⟩) (World.block_lt_of_cell? w _ h0)).trans h0;have o:Ff (w.alloc (oP #[oH oO 0,oJ ⟨#[]⟩,oH oO 0] 170)) lv (t::r):=C.AA (X:=fun _=>False) (.AJ l) (fun _ _ h=>h);have j:=Kp i o k;rw[p]at j;have I:=Hd j;have J:=Hd (Q4 i o);clear h0 C i o j p l;go_enter Tryz.func146,Tryz.ntmps146
 go_wp2_with (first
  | (go_at_call 96;refine I.mono ?_;rintro e w' ⟨rfl,rfl⟩)
  | (go_at_call 145;refine J.mono ?_;intro e w' P;obtain⟨rfl,rfl⟩:=P))
 exact⟨rfl,BY.of rfl rfl,AG _ _⟩
def Yv{w:oU}{rb:Nat}{T f3 f4 f5:oV}{t:Tk}{r:List Tk}(C:Ah w rb 136 #[lv,T,U,f3,f4,f5])(l:Ff w lv (t::r))(hr:r≠[])(j:lv.ownBlock≠oM rb)(k:Nat)(hk:(t.k==k)=true):() 146 #[(rb,0),k] w (MV w rb T U f3 f4 f5 lv t r):=by
 have p:=AG w (oP #[oH oO 0,oJ ⟨#[]⟩,oH oO 0] 170);have I:=C.alloc (oP #[oH oO 0,oJ ⟨#[]⟩,oH oO 0] 170);have R:Ff (w.alloc (oP #[oH oO 0,oJ ⟨#[]⟩,oH oO 0] 170)) lv (t::r):=l.AA (X:=fun _=>False) (.AJ p) (fun _ _ h=>h);have o:=Kp (I.cell 0) R k;rw[hk]at o;have H1:=Hd o;have H2:=Hd (NQ I R hr j);have a2:=C.lt;have HA:=Hd p;have a1:=Hd l.lt;clear C l hr j I R o hk p;go_enter Tryz.func146,Tryz.ntmps146
 go_wp2_with (first
  | (go_at_call 96;refine H1.mono ?_;rintro e w' ⟨rfl,rfl⟩)
  | (go_at_call 98;refine H2.mono ?_;intro e w1 hx;obtain⟨rfl,P,a0⟩:=hx;have HC:=Hd P;have HX:=Hd a0;have i:=(P.block w.heap.size oA nX).trans (Ah.new w 170 #[oH oO 0,oJ ⟨#[]⟩,oH oO 0]);have HK:=Hd i;have j0:=Ah.cell i 0;have j1:=Ah.cell i 1;have j2:=Ah.cell i 2;have i0:=Ah.frozen i 0;have i1:=Ah.frozen i 1;have i2:=Ah.frozen i 2;clear P a0 i;simp at j0 j1 j2;unfold Tk.val))
 refine bodyPost_ret (v:=t.val) (by simp[results,Tryz.results146,go_sem,Tk.val,j0,j1,j2]) rfl ⟨rfl,?_,?_⟩
 ·exact(((((Am.refl (·=rb) w).alloc _).next HC).set (p:=⟨w.heap.size,0,oN⟩) (.inl (Ay _)) _).set (p:=⟨w.heap.size,1,oN⟩) (.inl (Ay _)) _).set (p:=⟨w.heap.size,2,oN⟩) (.inl (Ay _)) _
 ·obtain⟨a3,hb,l,ho⟩:=HX.out
  have j:rb≠w.heap.size:=by omega
  obtain⟨b,off,c,cs,rfl,h⟩:=l;have J:b≠w.heap.size:=by have:=a1 b (ho▸rfl);omega
  refine⟨_,((hb.Bz (p:=⟨w.heap.size,0,oN⟩) j _).Bz (p:=⟨w.heap.size,1,oN⟩) j _).Bz (p:=⟨w.heap.size,2,oN⟩) j _,⟨b,off,c,cs,rfl,?_⟩,ho⟩;exact⟨((h.Aj.Bz (p:=⟨w.heap.size,0,oN⟩) J _).Bz (p:=⟨w.heap.size,1,oN⟩) J _).Bz (p:=⟨w.heap.size,2,oN⟩) J _,h.cap,h.cell⟩
def Iq:List Tk->Prop
 | []=>False
 | [t]=>t.k=0
 | t::r=>t.k≠0/\Iq r
theorem Iq.tail{t:Tk}{r:List Tk}(h:Iq (t::r))(i:t.k≠0):Iq r/\r≠[]:=by
 cases r with
 | nil=>exact absurd h i
 | cons u r=>exact⟨h.2,oA⟩
theorem Iq.cons{l:List Tk}(h:Iq l):∃t r,l=t::r:=by
 cases l with
 | nil=>exact h.elim
 | cons t r=>exact⟨t,r,rfl⟩
def O6{t:Tk}(h:Bi t=true):t.k≠0:=by intro h0;unfold Bi at h;rw[h0]at h;cases h
def Am.keeps{w a b:oU}(h:Am X w a)(k:AI w T a b):Am X w b:=
 ⟨k.os.trans h.os,k.tape.trans h.tape,k.output.trans h.output,AW h.size k.size,fun i j l=>(k.block i (A0 j h.size) (.inl j)).trans (h.block i j l)⟩
structure Ct(w:oU)(rb:Nat)(f1 f2 f3 f4 f5:oV)(tb:Option Nat)(l:List Tk):Prop where
 ex:∃lv,Ah w rb 136 #[lv,f1,f2,f3,f4,f5]/\Ff w lv l/\lv.ownBlock=tb
 ended:Iq l
 ne:tb≠oM rb
def MV.A8{w:oU}{rb:Nat}{j l o p:oV}{t:Tk}{r:List Tk}{e:Ending}(h:MV w rb i j l o p lv t r e w')(U:Iq r)(T:lv.ownBlock≠oM rb) :
  e=oQ t.val/\Am (·=rb) w w'/\Ct w' rb i j l o p lv.ownBlock r:=by
 obtain⟨C,I,a0,J,P,R⟩:=h;exact⟨C,I,⟨a0,J,P,R⟩,U,T⟩
def Ct.AA{w:oU}{rb:Nat}{j o p t:oV}{tb:Option Nat}{l:List Tk}(h:Ct w rb i j o p t tb l)(C:Am X w w')(I:¬X rb)(J:∀g,tb=oM g->¬X g):Ct w' rb i j o p t tb l:=by obtain⟨T,P,R,rfl⟩:=h.ex;exact⟨⟨T,C.Aj P I,R.AA C J,rfl⟩,h.ended,h.ne⟩
def Ct.lt{w:oU}{rb:Nat}{j o p t:oV}{tb:Option Nat}{l:List Tk}(h:Ct w rb i j o p t tb l):rb<w.heap.size/\∀g,tb=oM g->g<w.heap.size:=by obtain⟨J,C,I,rfl⟩:=h.ex;exact⟨C.lt,I.lt⟩
structure IS(w:oU)(rb:Nat)(f1 f2 f3 f4 f5:oV)(tb:Option Nat)(l:List Tk)(sb:Nat)(p:Nat)(sv:oV)(a rest:List Tk)(wr:oU):Prop where
 A8:Ct wr rb f1 f2 f3 f4 f5 tb rest
 Aj:Ah wr sb 180 #[sv,p]
 own:wr.ownsRow w 170 3 sv a.length (a.flatMap Tk.cells)
 AA:Am (·=rb) w wr
 tw:l.takeWhile Bi=a++rest.takeWhile Bi
 dw:l.dropWhile Bi=rest.dropWhile Bi
variable{p:oV}{a:List Tk}
def l5{w wr w1:oU}{rb:Nat}{J P R T:oV}{tb:Option Nat}{l:List Tk}{i p:Nat}{sv:oV}{r:List Tk}{t:Tk}{C:Option Addr}(a9:rb<w.heap.size)(a7:∀g,tb=oM g->g<w.heap.size)(a6:w.heap.size<=i)
  (h:IS w rb I J P R T tb l i p sv a (t::r) wr) (ht:Bi t=true) (a2:Am (·=rb) wr w1) (a0:Ct w1 rb I J P R T tb r)
  (ho:w2.ownsRow w 170 3 (oG C (a.length+1) c2) (a.length+1) (a.flatMap Tk.cells++t.cells)) (o:AI w [170] (w1.alloc (oP #[t.k,oJ (str t.s),t.p] 170)) w2) :
  IS w rb I J P R T tb l i p (oG C (a.length+1) c2) (a++[t]) r (w2.setCell (i,0) (oG C (a.length+1) c2)):=by
 have a3:rb≠i:=by omega
 have a1:Ah w2 i 180 #[sv,p]:=o.Aj ((a2.Aj h.Aj (Ne.symm a3)).alloc _) (.inr nY);have a5:Am (·=rb) w w2:=((h.AA.next a2).alloc _).keeps o;refine⟨⟨?_,a0.ended,a0.ne⟩,by simpa using a1.Ba 0 _,?_,a5.set (p:=⟨i,0,oN⟩) (.inl a6) _,?_,?_⟩
 ·obtain⟨lv,k1,k2,k3⟩:=a0.ex
  refine⟨lv,(o.Aj (k1.alloc _) (.inr nY)).Bz (by simpa using a3) _,?_,k3⟩;obtain⟨b,off,c,cs,rfl,U⟩:=k2;have hb:=a7 b (by rw[<-k3];rfl);exact⟨b,off,c,cs,rfl,(o.Aj (U.Aj.alloc _) (.inl hb)).Bz oC _,U.cap,U.cell⟩
 ·have:(a++[t]).length=a.length+1:=by simp
  rw[this,List.flatMap_append];refine EB (by simpa using ho) ?_ _;intro j;rcases Bj ho with⟨e,_⟩|⟨b,c,e,_,_,_,_,a8,a4⟩
  ·rw[e]at j;cases j
  ·rw[e]at j
   cases j
   exact Ah.Bb (t:=170) a4 a1 nY rfl
 ·rw[h.tw,List.takeWhile_cons,if_pos ht];simp
 ·rw[h.dw,List.dropWhile_cons,if_pos ht]
def BK{w:oU}{base:Nat}{v:oV}(h:w.ownsRow base e size v n xs):∃A c,v=oG A n c:=by
 rcases Bj h with⟨rfl,rfl⟩|⟨b,c,rfl,_⟩
 ·exact⟨oN,0,rfl⟩
 ·exact⟨_,c,rfl⟩
def C0{w:oU}{base x:Nat}{v:oV}(h:w.ownsRow base e size v n xs)(o:x<base):∀g,v.ownBlock=oM g->¬g=x:=by
 rcases Bj h with⟨rfl,_⟩|⟨b,c,rfl,j,_⟩
 ·intro g i;cases i
 ·intro g i l
  cases i
  subst l;exact absurd o (Nat.not_lt.2 j)
def IS.len{w wr:oU}{rb:Nat}{j o t:oV}{tb:Option Nat}{l:List Tk}{R p:Nat}{T:oV}{rest:List Tk}(h:IS w rb i j o t C tb l R p T a rest wr):a.length+rest.length=l.length:=by have I:=congrArg List.length h.tw;have U:=congrArg List.length h.dw;have J:=congrArg List.length (List.takeWhile_append_dropWhile (p:=Bi) (l:=l));have P:=congrArg List.length (List.takeWhile_append_dropWhile (p:=Bi) (l:=rest));rw[Cb]at I J P;omega
def Oe(l:List Tk):(BU l).l=l.takeWhile Bi:=by cases l<;>rfl
def IS.drew{w wr:oU}{rb:Nat}{j o t:oV}{tb:Option Nat}{l:List Tk}{J p:Nat}{P:oV}{rest:List Tk}(h:IS w rb j o t C I tb l J p P a rest wr):IS w rb j o t C I tb l J p P a rest wr.drew:=by have i:Am (fun _=>False) wr wr.drew:=(Am.refl _ _).drew;exact⟨h.A8.AA i id (fun _ _=>id),i.Aj h.Aj id,i.own h.own (fun _ _=>id),h.AA.drew,h.tw,h.dw⟩
def eQ(w:oU)(rb:Nat)(i j o p t:oV)(tb:Option Nat)(l:List Tk)(e:Ending)(w':oU):Prop:=
 ∃A c,e=oQ (.agg #[oG A (BU l).l.length c,oH oO (BU l).p])/\Am (·=rb) w w'/\Ct w' rb i j o p t tb (l.dropWhile Bi)/\w'.ownsRow w 170 3 (oG A (BU l).l.length c) (BU l).l.length ((BU l).l.flatMap Tk.cells)
def RM{w:oU}{rb:Nat}{f1 f2 f3 f4 f5:oV}{tb:Option Nat}{l:List Tk}(h:Ct w rb f1 f2 f3 f4 f5 tb l)(b2:l.length<=100000):() 147 #[(rb,0)] w (eQ w rb f1 f2 f3 f4 f5 tb l):=by
 obtain⟨aa,ae⟩:=h.lt;obtain⟨j,r0,a1⟩:=h.ended.cons;obtain⟨lv,o,p,C⟩:=h.ex;have hA:=AG w (oP #[oG oN 0 0,oH oO 0] 180);have a7:=((Am.refl (·=rb) w).alloc (oP #[oG oN 0 0,oH oO 0] 180)).alloc (oP #[oG oN 0 0,j.p] 180);have hp:(BU l).p=j.p:=by rw[a1];rfl
 have HP:=Hd hp;have ad:IS w rb f1 f2 f3 f4 f5 tb l (w.heap.size+1) j.p (oG oN 0 0) [] l ((w.alloc (oP #[oG oN 0 0,oH oO 0] 180)).alloc (oP #[oG oN 0 0,j.p] 180)):=by have ax:=((Am.refl (fun _=>False) w).alloc (oP #[oG oN 0 0,oH oO 0] 180)).alloc (oP #[oG oN 0 0,j.p] 180);refine⟨h.AA ax id (fun _ _ h=>h),?_,World.ownsRow_nil _ _ _ _,a7,rfl,rfl⟩;have:=Ah.new (w.alloc (oP #[oG oN 0 0,oH oO 0] 180)) 180 #[oG oN 0 0,j.p];rwa [World.size_alloc]at this
 have au:=Hd ad;have an:=Hd ((Ah.new w 180 #[oG oN 0 0,oH oO 0]).alloc (oP #[oG oN 0 0,j.p] 180));have aw:=o.cell 0;simp at aw;obtain⟨b,off,c,cs,rfl,a2⟩:=p;rw[a1]at a2;obtain⟨_,_,c2⟩:=a2.head;have b4:=a2.Aj.lt;have b3:(0:Int)<(l.length:Int):=by rw[a1,List.length_cons];omega
 clear hA a7 h o a2 a1 C hp ad;go_enter Tryz.func147,Tryz.ntmps147
 go_wp2;generalize b5:w.heap.size+1=sb at *;go_loopg [] l.length (fun n wr=>∃sv a rest,n=rest.length/\Hid (IS w rb f1 f2 f3 f4 f5 tb l sb j.p sv a rest wr)/\Hid (Ah wr w.heap.size 180 #[oG oN 0 0,oH oO 0]))
 case atStart=>exact⟨_,[],l,rfl,au,an⟩
 case round=>
  obtain⟨sv,a,rest,rfl,i,R⟩:=hrel;obtain⟨t,r,rfl⟩:=i.A8.ended.cons;have a8:=i.len;obtain⟨af,o,p,C⟩:=i.A8.ex;have h0:=o.cell 0;simp at h0;have H1:=Hd (Vg h0 p);obtain⟨A,c,rfl⟩:=BK i.own;have b0:=i.Aj.cell 0;have b1:=i.Aj.cell 1;have u0:=i.Aj.frozen 0;have ag:=R.cell 0;have ah:=R.cell 1;have v0:=R.frozen 0;have v1:=R.frozen 1;simp at b0 b1 ag ah;have b6:=i.Aj.lt;cases I:Bi t with
  | true=>
   rw[I]at H1;have HD:=Hd i.drew;have ao:=Hd (((Am.refl (fun _=>False) wr).drew).Aj R id);clear o p C;obtain⟨af,o,p,C⟩:=HD.A8.ex;have a5:=i.A8.ended.tail (O6 I);have a4:af.ownBlock≠oM rb:=by rw[C];exact i.A8.ne
   have H2:=Hd ((NQ o p a5.2 a4).mono fun e P hx=>(by have:=hx.A8 a5.1 a4;rw[C]at this;exact this:e=oQ (.agg #[t.k,oJ (str t.s),t.p])/\Am (·=rb) wr.drew P/\Ct P rb f1 f2 f3 f4 f5 tb r));have av:=Hd I;have HA:a.length+r.length<100000:=by simp at a8;omega
   clear o p h0 C I a5 a8 a4;go_wp2_with (go_at_call 144;refine H1.mono ?_;rintro e w' ⟨rfl,J⟩;replace J:=J.symm;subst J)
   go_region_law (first
    | (
      refine ER L5 (.tmp 15) (.tmp 18) ?_ ?_ (base:=w.heap.size) (n:=a.length) (m:=1) (N:=a.length+1) (v:=oG A a.length c) (src:=oG (P,0) 1 1) (xs:=a.flatMap Tk.cells) (news:=[oH oO t.k,oJ (str t.s),oH oO t.p]) ?_ ?_ ?_ ?_ ?_ ?_ ?_ ?_ ?_
      ·rfl
      ·rfl
      ·rfl
      ·rfl
      ·exact ak.alloc _
      ·exact Mj P _ _ _
      ·rfl
      ·unfold maxLen;omega
      ·omega
      ·simp;omega
      intro A2 c2 w2 r1 r2 r3;have HF:=Hd (l5 aa ae nX HD av ai ar r1 r2);have a3:=r2.Aj (aj.alloc _) (.inr nY);have z0:=a3.cell 0;have z1:=a3.frozen 0;simp at z0;have aq:=Hd ((r2.Aj (al.alloc _) (.inr nY)).Bz (p:=⟨sb,0,oN⟩) oC (oG A2 (a.length+1) c2));clear r1 r2 r3 a3)
    | (
      go_simp;go_at_call 98;refine H2.mono ?_;intro e P hx;obtain⟨rfl,T,ab⟩:=hx;have ai:=Hd T;have ar:=Hd ab;have ak:=Hd (T.own HD.own (C0 HD.own aa));have hk:=T.Aj HD.Aj nX;have b0:=hk.cell 0;have u0:=hk.frozen 0;simp at b0;have aj:=Hd hk;have al:=Hd (T.Aj ao nX);have b7:wr.heap.size<=P.heap.size:=T.size;have b8:sb<P.heap.size:=by omega
      clear T ab hk))
   all_goals go_wp2
   all_goals go_roundg r.length
   all_goals first
    | (case measure=>simp)
    | (case rel=>exact⟨_,a++[t],r,rfl,HF,aq⟩)
    | skip
  | false=>
   rw[I]at H1;clear o p h0;go_wp2_with (go_at_call 144;refine H1.mono ?_;rintro e w' ⟨rfl,J⟩;replace J:=J.symm;subst J)
   refine bodyPost_ret (v:=.agg #[oG A a.length c,j.p]) (by simp[results,Tryz.results147,go_sem,ag,ah]) rfl ?_;have a0:=i.out;have a6:=a0.tw;rw[List.takeWhile_cons,if_neg (by rw[I];simp),List.append_nil]at a6;have a9:=a0.dw;rw[List.dropWhile_cons,if_neg (by rw[I];simp)]at a9;have hX:Am (·=w.heap.size) wr ((wr.setCell (w,0) (oG A a.length c)).setCell (w,1) j.p):=((Am.refl (·=w.heap.size) wr).set (p:=⟨w.heap.size,0,oN⟩) (.inr rfl) _).set (p:=⟨w.heap.size,1,oN⟩) (.inr rfl) _;refine⟨A,c,?_,(a0.AA.set (p:=⟨w.heap.size,0,oN⟩) (.inl (Ay _)) _).set (p:=⟨w.heap.size,1,oN⟩) (.inl (Ay _)) _,?_,?_⟩
   ·rw[Oe,a6,HP.out]
   ·rw[a9]
    exact a0.A8.AA hX nX (fun g U=>by have:=ae g U;omega)
   ·rw[Oe,a6]
    refine hX.own a0.own ?_;intro g U he;rcases Bj a0.own with⟨e,_⟩|⟨b,c,e,_,_,_,_,az,ay⟩
    ·rw[e]at U;cases U
    ·rw[e]at U
     cases U
     exact Ah.Bb (t:=170) ay R nY he
def Qr:El Tryz.prog 22 3 1 8:=El.of (z:=oH oO 0) Tryz.underlying22 nZ rfl nY
def TN(y:oU)(a:Int):Be (y.alloc (oP #[a] 3)) (oG (y,0) 1 1) 1 1 [oH oO a]:=
 Be.Aj (c:=1) (Ah.new y 3 #[a]) rfl oE
def Am.CM{w:oU}{v:oV}(h:w.grownBy w' v.ownBlock):Am (fun k=>v.ownBlock=oM k) w w':=⟨h.os,h.tape,h.output,h.size,fun k i j=>h.block k i (fun e=>j e.symm)⟩
def Gs{w:oU}{p t:Nat}{i j:TypeId}{s1 s2 T U:Nat}{v1 v2:oV}{a0 a1:List oV}(C:w.ownsRow p i s1 v1 T a0)(I:w.ownsRow t j s2 v2 U a1)(R:i≠j):∀g,v1.ownBlock=oM g->¬v2.ownBlock=oM g:=by
 intro g l o;rcases Bj C with⟨rfl,_⟩|⟨b,c,rfl,_,_,_,_,a2,J⟩
 ·cases l
 ·cases l
  rcases Bj I with⟨rfl,_⟩|⟨b2,c2,rfl,_,_,_,_,a3,P⟩
  ·cases o
  ·cases o
   exact Ah.Bb (t:=i) J P R rfl
def B7{w:oU}{B:Nat}{s:Nat}{v:oV}(h:w.ownsRow B e s v n xs):∀g,v.ownBlock=oM g->B<=g/\g<w.heap.size:=by
 intro g i;rcases Bj h with⟨rfl,_⟩|⟨b,c,rfl,j,l,_⟩
 ·cases i
 ·cases i
  exact⟨j,l⟩
def Mark(m:Nat):oV:=oH oO m
structure C7(w:oU)(B rb:Nat)(f4 f5:oV)(tb:Option Nat)(l:List Tk)(x:Bl)(dv kv sv:oV):Prop where
 A8:Ct w rb dv kv sv f4 f5 tb l
 decl:w.ownsRow B 170 3 dv x.decl.length (x.decl.flatMap Tk.cells)
 marks:w.ownsRow B 3 1 kv x.marks.length (x.marks.map Mark)
 starts:w.ownsRow B 170 3 sv x.starts.length (x.starts.flatMap Tk.cells)
 apart:∀g,dv.ownBlock=oM g->¬sv.ownBlock=oM g
 EA:rb<B
 GA:∀g,tb=oM g->g<B
 bB:B<=w.heap.size
 ld:x.decl.length+l.length<=100000
 lm:x.marks.length+l.length<=100000
 ls:x.starts.length+l.length<=100000
def C7.AA{w:oU}{B rb:Nat}{t:oV}{tb:Option Nat}{l P:List Tk}{x:Bl}{J R:oV}(h:C7 w B rb t C tb l x p J R)(o:Am X w w')(I:∀k,X k->k=rb)(T:Ct w' rb p J R t C tb P)(U:P.length<=l.length):C7 w' B rb t C tb P x p J R where
 A8:=T
 decl:=o.own h.decl (fun g j i=>C0 h.decl h.EA g j (I g i))
 marks:=o.own h.marks (fun g j i=>C0 h.marks h.EA g j (I g i))
 starts:=o.own h.starts (fun g j i=>C0 h.starts h.EA g j (I g i))
 apart:=h.apart
 EA:=h.EA
 GA:=h.GA
 bB:=AW h.bB o.size
 ld:=by have:=h.ld;omega
 lm:=by have:=h.lm;omega
 ls:=by have:=h.ls;omega
def gC{w:oU}{B rb:Nat}{T:oV}{tb:Option Nat}{l:List Tk}{x:Bl}{kv sv:oV}{N:Nat}{t:Tk}(h:C7 w B rb T U tb l x p kv sv)(hl:x.decl.length+1+l.length<=100000)(hN:N=x.decl.length+1)
  (ho:w2.ownsRow B 170 3 (oG j N c2) N (x.decl.flatMap Tk.cells++t.cells)) (hg:(w.alloc o).grownBy w2 p.ownBlock/\((Value.slice j N c2).ownBlock=p.ownBlock\/(Value.slice j N c2).ownBlock=oM (w.alloc o).heap.size)) :
  C7 (w2.setCell (rb,1) (oG j N c2)) B rb T U tb l {x with decl:=x.decl++[t]} (oG j N c2) kv sv/\Am (fun k=>k=rb\/B<=k) w (w2.setCell (rb,1) (oG j N c2)):=by
 have hX:Am (fun k=>p.ownBlock=oM k) w w2:=((Am.refl _ w).alloc o).next (.CM hg.1);have P:∀k,p.ownBlock=oM k->B<=k:=fun k hk=>(B7 h.decl k hk).1
 have C:Am (fun k=>k=rb\/p.ownBlock=oM k) w (w2.setCell (rb,1) (oG j N c2)):=(hX.mono (fun a1 J=>.inr J)).set (p:=⟨rb,1,oN⟩) (.inr (.inl rfl)) _;have R:=h.EA;obtain⟨lv,k1,k2,k3⟩:=h.A8.ex;have e1:¬p.ownBlock=oM rb:=fun e=>by have:=P _ e;omega
 refine⟨⟨⟨⟨lv,by simpa using(hX.Aj k1 e1).Ba 1 _,k2.AA C ?_,k3⟩,h.A8.ended,h.A8.ne⟩,?d,?k,?s,?_,h.EA,h.GA,AW h.bB C.size,?_,?_,?_⟩,C.mono ?_⟩
 ·intro g i
  rw[k3]at i;rintro(rfl|I)
  ·exact h.A8.ne i
  ·have:=h.GA g i;have:=P g I;omega
 case d=>rw[show (x.decl++[t]).length=N by rw[hN];simp,List.flatMap_append];exact EB (by simpa [Tk.cells] using ho) (fun e=>C0 ho R _ e rfl) _
 case k=>
  refine C.own h.marks ?_;rintro g i (rfl|I)
  ·exact C0 h.marks R _ i rfl
  ·exact Gs h.decl h.marks nY g I i
 case s=>
  refine C.own h.starts ?_;rintro g i (rfl|I)
  ·exact C0 h.starts R _ i rfl
  ·exact h.apart g I i
 ·intro g i a0
  rcases hg.2 with e|e
  ·rw[e]at i;exact h.apart g i a0
  ·rw[e]at i;cases i;have:=(B7 h.starts _ a0).2;simp at this;omega
 ·have:=h.ld;simp at this ⊢;omega
 ·have:=h.lm;simp at this ⊢;omega
 ·have:=h.ls;simp at this ⊢;omega
 ·rintro a1 (J|J)
  ·exact .inl J
  ·exact .inr (P a1 J)
def cF{w:oU}{B rb:Nat}{T:oV}{tb:Option Nat}{l:List Tk}{x:Bl}{R sv:oV}{N:Nat}{m:Nat}(h:C7 w B rb T U tb l x R p sv)(hl:x.marks.length+1+l.length<=100000)(hN:N=x.marks.length+1)
  (ho:w2.ownsRow B 3 1 (oG j N c2) N (x.marks.map Mark++[Mark m])) (hg:(w.alloc o).grownBy w2 p.ownBlock/\((Value.slice j N c2).ownBlock=p.ownBlock\/(Value.slice j N c2).ownBlock=oM (w.alloc o).heap.size)) :
  C7 (w2.setCell (rb,2) (oG j N c2)) B rb T U tb l {x with marks:=x.marks++[m]} R (oG j N c2) sv/\Am (fun k=>k=rb\/B<=k) w (w2.setCell (rb,2) (oG j N c2)):=by
 have hX:Am (fun k=>p.ownBlock=oM k) w w2:=((Am.refl _ w).alloc o).next (.CM hg.1);have J:∀k,p.ownBlock=oM k->B<=k:=fun k hk=>(B7 h.marks k hk).1
 have t:Am (fun k=>k=rb\/p.ownBlock=oM k) w (w2.setCell (rb,2) (oG j N c2)):=(hX.mono (fun a0 I=>.inr I)).set (p:=⟨rb,2,oN⟩) (.inr (.inl rfl)) _;have P:=h.EA;obtain⟨lv,k1,k2,k3⟩:=h.A8.ex;have e1:¬p.ownBlock=oM rb:=fun e=>by have:=J _ e;omega
 refine⟨⟨⟨⟨lv,by simpa using(hX.Aj k1 e1).Ba 2 _,k2.AA t ?_,k3⟩,h.A8.ended,h.A8.ne⟩,?d,?k,?s,?_,h.EA,h.GA,AW h.bB t.size,?_,?_,?_⟩,t.mono ?_⟩
 ·intro g i
  rw[k3]at i;rintro(rfl|C)
  ·exact h.A8.ne i
  ·have:=h.GA g i;have:=J g C;omega
 case k=>rw[show (x.marks++[m]).length=N by rw[hN];simp,BB];exact EB (by simpa [Mark] using ho) (fun e=>C0 ho P _ e rfl) _
 case d=>
  refine t.own h.decl ?_;rintro g i (rfl|C)
  ·exact C0 h.decl P _ i rfl
  ·exact Gs h.marks h.decl nY g C i
 case s=>
  refine t.own h.starts ?_;rintro g i (rfl|C)
  ·exact C0 h.starts P _ i rfl
  ·exact Gs h.marks h.starts nY g C i
 ·exact h.apart
 ·have:=h.ld;simp at this ⊢;omega
 ·have:=h.lm;simp at this ⊢;omega
 ·have:=h.ls;simp at this ⊢;omega
 ·rintro a0 (I|I)
  ·exact .inl I
  ·exact .inr (J a0 I)
def WB{w:oU}{B rb:Nat}{f4 f5:oV}{tb:Option Nat}{l:List Tk}{x:Bl}{kv:oV}{N:Nat}{t:Tk}(h:C7 w B rb f4 f5 tb l x U kv p)(hl:x.starts.length+1+l.length<=100000)(hN:N=x.starts.length+1)
  (ho:w2.ownsRow B 170 3 (oG j N c2) N (x.starts.flatMap Tk.cells++t.cells)) (hg:(w.alloc o).grownBy w2 p.ownBlock/\((Value.slice j N c2).ownBlock=p.ownBlock\/(Value.slice j N c2).ownBlock=oM (w.alloc o).heap.size)) :
  C7 (w2.setCell (rb,3) (oG j N c2)) B rb f4 f5 tb l {x with starts:=x.starts++[t]} U kv (oG j N c2)/\Am (fun k=>k=rb\/B<=k) w (w2.setCell (rb,3) (oG j N c2)):=by
 have hX:Am (fun k=>p.ownBlock=oM k) w w2:=((Am.refl _ w).alloc o).next (.CM hg.1);have R:∀k,p.ownBlock=oM k->B<=k:=fun k hk=>(B7 h.starts k hk).1
 have C:Am (fun k=>k=rb\/p.ownBlock=oM k) w (w2.setCell (rb,3) (oG j N c2)):=(hX.mono (fun a0 J=>.inr J)).set (p:=⟨rb,3,oN⟩) (.inr (.inl rfl)) _;have T:=h.EA;obtain⟨lv,k1,k2,k3⟩:=h.A8.ex;have e1:¬p.ownBlock=oM rb:=fun e=>by have:=R _ e;omega
 refine⟨⟨⟨⟨lv,by simpa using(hX.Aj k1 e1).Ba 3 _,k2.AA C ?_,k3⟩,h.A8.ended,h.A8.ne⟩,?d,?k,?s,?_,h.EA,h.GA,AW h.bB C.size,?_,?_,?_⟩,C.mono ?_⟩
 ·intro g i
  rw[k3]at i;rintro(rfl|I)
  ·exact h.A8.ne i
  ·have:=h.GA g i;have:=R g I;omega
 case s=>rw[show (x.starts++[t]).length=N by rw[hN];simp,List.flatMap_append];exact EB (by simpa [Tk.cells] using ho) (fun e=>C0 ho T _ e rfl) _
 case d=>
  refine C.own h.decl ?_;rintro g i (rfl|I)
  ·exact C0 h.decl T _ i rfl
  ·exact h.apart g i I
 case k=>
  refine C.own h.marks ?_;rintro g i (rfl|I)
  ·exact C0 h.marks T _ i rfl
  ·exact Gs h.starts h.marks nY g I i
 ·intro g i P
  rcases hg.2 with e|e
  ·rw[e]at P;exact h.apart g i P
  ·rw[e]at P;cases P;have:=(B7 h.decl _ i).2;simp at this;omega
 ·have:=h.ld;simp at this ⊢;omega
 ·have:=h.lm;simp at this ⊢;omega
 ·have:=h.ls;simp at this ⊢;omega
 ·rintro a0 (J|J)
  ·exact .inl J
  ·exact .inr (R a0 J)
def U7(w:oU)(rb:Nat)(f1 f2 f3 f4 f5:oV)(tb:Option Nat)(t:Tk)(r:List Tk)(e:Ending)(w':oU):Prop:=
 e=oQ (.agg #[t.k,oJ (str t.s),t.p])/\Am (·=rb) w w'/\Ct w' rb f1 f2 f3 f4 f5 tb r
namespace Ct
variable {w:oU} {rb:Nat} {f1 f2 f3 f4 f5:oV} {tb:Option Nat} {t:Tk} {r l:List Tk}
def is(h:Ct w rb f1 f2 f3 f4 f5 tb (t::r))(k:Nat)(K:Int)(p:K=(k:Int)):() 96 #[(rb,0),K] w fun e w'=>e=oQ (oK (t.k==k))/\w=w':=by subst p;obtain⟨I,o,C,_⟩:=h.ex;exact(Kp (o.cell 0) C k).mono fun e w' ⟨i,j⟩=>⟨i,j.symm⟩
def sym(h:Ct w rb f1 f2 f3 f4 f5 tb (t::r)):() 144 #[(rb,0)] w fun e w'=>e=oQ (oK (Bi t))/\w=w':=by obtain⟨C,o,p,_⟩:=h.ex;exact(Vg (o.cell 0) p).mono fun e w' ⟨i,j⟩=>⟨i,j.symm⟩
def bad(h:Ct w rb f1 f2 f3 f4 f5 tb (t::r)):() 145 #[(rb,0)] w fun e w'=>e=.panicked [{v:=.iface 130 (.agg #[oH oO (DR (t::r)).1,oH oO (DR (t::r)).2]),recovered:=false}]/\w=w':=by obtain⟨C,o,p,_⟩:=h.ex;exact(Q4 (o.cell 0) p).mono fun e w' ⟨i,j⟩=>⟨i,j.symm⟩
def take(h:Ct w rb f1 f2 f3 f4 f5 tb (t::r))(I:t.k≠0):() 98 #[(rb,0)] w (U7 w rb f1 f2 f3 f4 f5 tb t r):=by
 obtain⟨R,C,J,j⟩:=h.ex;obtain⟨o,p⟩:=h.ended.tail I;have i:R.ownBlock≠oM rb:=by rw[j];exact h.ne
 refine(NQ C J p i).mono fun e T P=>?_
 have:=P.A8 o i;rw[j]at this;exact this
def want(h:Ct w rb f1 f2 f3 f4 f5 tb (t::r))(k:Nat)(K:Int)(J:K=(k:Int))(i:t.k=k)(h0:k≠0):() 146 #[(rb,0),K] w (U7 w rb f1 f2 f3 f4 f5 tb t r):=by
 subst J;obtain⟨T,I,P,o⟩:=h.ex;obtain⟨p,C⟩:=h.ended.tail (i▸h0);have j:T.ownBlock≠oM rb:=by rw[o];exact h.ne
 refine(Yv I P C j k (by simp[i])).mono fun e U R=>?_
 have:=R.A8 p j;rw[o]at this;exact this
def MK(h:Ct w rb f1 f2 f3 f4 f5 tb (t::r))(k:Nat)(K:Int)(j:K=(k:Int))(o:t.k≠k):() 146 #[(rb,0),K] w fun e w'=>e=.panicked [{v:=.iface 130 (.agg #[oH oO (DR (t::r)).1,oH oO (DR (t::r)).2]),recovered:=false}]/\Below w w w':=by subst j;obtain⟨C,i,p,_⟩:=h.ex;exact aA (i.cell 0) p k (by simp[o])
def drew(h:Ct w rb f1 f2 f3 f4 f5 tb l):Ct w.drew rb f1 f2 f3 f4 f5 tb l:=h.AA ((Am.refl (fun _=>False) w).drew) id (fun _ _=>id)
def cells(h:Ct w rb f1 f2 f3 f4 f5 tb l):oT w (rb,1)=oM f1/\oT w (rb,2)=oM f2/\oT w (rb,3)=oM f3/\oT w (rb,4)=oM f4/\oT w (rb,5)=oM f5/\rb<w.heap.size:=by obtain⟨o,i,j,_⟩:=h.ex;exact⟨i.cell 1,i.cell 2,i.cell 3,i.cell 4,i.cell 5,i.lt⟩
def frozen(h:Ct w rb f1 f2 f3 f4 f5 tb l)(k:Nat):w.frozen? (rb,k)=false:=by obtain⟨o,i,j,_⟩:=h.ex;exact i.frozen k
end Ct
def C7.drew{w:oU}{B rb:Nat}{f4 f5:oV}{tb:Option Nat}{l:List Tk}{x:Bl}{j o:oV}(h:C7 w B rb f4 f5 tb l x i j o):C7 w.drew B rb f4 f5 tb l x i j o:=
 h.AA ((Am.refl (fun _=>False) w).drew) (fun _ h=>h.elim) h.A8.drew (Ay _)
def C7.ex{w:oU}{B rb:Nat}{f4 f5:oV}{tb:Option Nat}{l:List Tk}{x:Bl}(h:C7 w B rb f4 f5 tb l x p C I):∃i c1 j c2 o c3,p=oG i x.decl.length c1/\C=oG j x.marks.length c2/\I=oG o x.starts.length c3:=by obtain⟨i,c1,J⟩:=BK h.decl;obtain⟨j,c2,P⟩:=BK h.marks;obtain⟨o,c3,R⟩:=BK h.starts;exact⟨i,c1,j,c2,o,c3,J,P,R⟩
def C7.grown{w:oU}{B rb:Nat}{f4 f5 v:oV}{tb:Option Nat}{l:List Tk}{x:Bl}(h:C7 w B rb f4 f5 tb l x i p C)(j:∀k,v.ownBlock=oM k->B<=k/\k<w.heap.size)(I:(w.alloc o).grownBy w2 v.ownBlock):Ct w2 rb i p C f4 f5 tb l:=by
 refine h.A8.AA (((Am.refl _ w).alloc o).next (.CM I)) (fun e=>?_) (fun g J e=>?_)
 ·have:=(j _ e).1;have:=h.EA;omega
 ·have:=(j _ e).1;have:=h.GA _ J;omega
def XA(w:oU)(B rb:Nat)(f4 f5:oV)(tb:Option Nat)(x:Bl)(l:List Tk)(e:Ending)(w':oU):Prop:=
 Am (fun k=>k=rb\/B<=k) w w'/\match C8 x l with
 | .ok (C,o)=>e=oQ (.tuple #[])/\∃i j p,C7 w' B rb f4 f5 tb o C i j p
 | .error f=>BY f e
def ZS(k p:Int)(s:ByteArray)(w:oU):(Instr.field 170 (.agg #[k,oJ s,p]) 2).run Tryz.prog w=.ok p w:=by kernel_rfl
def fK{w:oU}{B rb:Nat}{f4 f5:oV}{tb:Option Nat}{l:List Tk}{x:Bl}{dv kv sv:oV}(h:C7 w B rb f4 f5 tb l x dv kv sv):() 97 #[(rb,0)] w (XA w B rb f4 f5 tb x l):=by
 obtain⟨t,r,rfl⟩:=h.A8.ended.cons;obtain⟨A1,c1,A2,c2,A3,c3,rfl,rfl,rfl⟩:=h.ex;have H7:=Hd (h.A8.is 7 7 rfl);have H8:=Hd (h.A8.is 8 8 rfl);have al:=Hd h.A8.bad;have bb:=h.EA;by_cases U:t.k=7
 ·have hk:(t.k==7)=true:=by simp[U]
  rw[hk]at H7;have HT:=Hd (h.A8.take nX);obtain⟨j,o,rfl⟩:=(h.A8.ended.tail nX).1.cons;have HH:=Hd h;cases I:Bi j with
  | false=>
   have HE:Hid (C8 x (t::j::o)=.error (DR (j::o))):=Hd (by simp[C8,U,I]);have ag:=Hd I;clear h U I hk;go_enter Tryz.func97,Tryz.ntmps97
   go_wp2_with (first
    | (go_at_call 96;with_reducible refine H7.out.mono ?_;rintro e R ⟨rfl,i⟩;subst i)
    | (go_at_call 98;refine HT.mono ?_;intro e w1 hx;obtain⟨rfl,a1,a0⟩:=hx;have aa:=Hd a1;have HY:=Hd (ag.out▸a0.sym);have ak:=Hd a0.bad;clear a1 a0)
    | (go_at_call 144;refine HY.mono ?_;rintro e R ⟨rfl,i⟩;subst i)
    | (go_at_call 145;refine ak.mono ?_;rintro e R ⟨rfl,i⟩;subst i))
   refine⟨rfl,aa.mono (fun _ h=>.inl h),?_⟩;rw[HE.out];exact BY.of rfl rfl
  | true=>
   have HE:Hid (C8 x (t::j::o)=.ok ({x with decl:=x.decl++(j::o).takeWhile Bi},(j::o).dropWhile Bi)):=Hd (by simp[C8,U,I]);have ag:=Hd I;have HN:Hid (j::o≠[]):=Hd oA;have b6:Hid (x.decl.length+(j::o).length<=100000):=Hd (by have:=h.ld;simp at this ⊢;omega);clear U hk;go_enter Tryz.func97,Tryz.ntmps97
   go_wp2_with (first
    | (go_at_call 96;with_reducible refine H7.out.mono ?_;rintro e R ⟨rfl,i⟩;subst i)
    | (go_at_call 98;refine HT.mono ?_;intro e w1 hx;obtain⟨rfl,a1,a0⟩:=hx;have aa:=Hd a1;have HY:=Hd (I▸a0.sym);have af:=Hd (HH.AA a1 (fun _ h=>h) a0 oA);clear a1 a0 h I)
    | (go_at_call 144;refine HY.mono ?_;rintro e R ⟨rfl,i⟩;subst i))
   have bd:B<=w1.heap.size:=af.bB;go_loopg [] (j::o).length (fun n wr=>∃dv a rest,n=rest.length/\Hid (C7 wr B rb f4 f5 tb rest {x with decl:=x.decl++a} dv (oG A2 x.marks.length c2) (oG A3 x.starts.length c3))/\Hid (Am (fun k=>k=rb\/B<=k) w wr)/\Hid ((j::o).takeWhile Bi=a++rest.takeWhile Bi/\(j::o).dropWhile Bi=rest.dropWhile Bi))
   case atStart=>
    have b0:C7 w1 B rb f4 f5 tb (j::o) {x with decl:=x.decl++[]} (oG A1 x.decl.length c1) (oG A2 x.marks.length c2) (oG A3 x.starts.length c3):=by rw[List.append_nil];exact af
    exact⟨oG A1 x.decl.length c1,[],j::o,rfl,Hd b0,Hd (aa.mono (fun _ h=>.inl h)),Hd ⟨rfl,rfl⟩⟩
   case round=>
    obtain⟨dv,a,rest,rfl,HR,HC,a8⟩:=hrel;obtain⟨t3,r3,rfl⟩:=HR.A8.ended.cons;obtain⟨A,c,au⟩:=BK HR.decl;generalize ai:(x.decl++a).length=n at *;have ar:=HR.ld;have ay:({x with decl:=x.decl++a}:Bl).decl.length=n:=ai;simp at ar ai;subst au;have a9:=Hd HR.A8.sym;have az:=HR.bB;cases h3:Bi t3 with
    | false=>
     rw[h3]at a9;go_wp2_with (go_at_call 144;refine a9.mono ?_;rintro e R ⟨rfl,i⟩;subst i)
     refine bodyPost_ret (results_none rfl _ _ _) rfl ⟨HC,?_⟩;rw[HE.out];have h1:=a8.1;have I:=a8.2;rw[List.takeWhile_cons (a:=t3),if_neg (by rw[h3];simp),List.append_nil]at h1;rw[List.dropWhile_cons (x:=t3),if_neg (by rw[h3];simp)]at I;rw[h1,I];exact⟨rfl,_,_,_,HR⟩
    | true=>
     rw[h3]at a9;have ad:=Hd HR.drew;have ao:=Hd (ad.A8.take (O6 h3));have ah:=Hd h3;obtain⟨b1,_,_,_,_,_⟩:=ad.A8.cells;clear h3;go_wp2_with (go_at_call 144;refine a9.mono ?_;rintro e R ⟨rfl,i⟩;subst i)
     go_region_law (first
       | (
         refine ER L5 (.tmp 20) (.tmp 23) ?_ ?_ (base:=B) (n:=n) (m:=1) (N:=n+1) (v:=oG A n c) (src:=oG (w3,0) 1 1) (xs:=(x.decl++a).flatMap Tk.cells) (news:=t3.cells) ?_ ?_ ?_ ?_ ?_ ?_ ?_ ?_ ?_
         · rfl
         · rfl
         · rfl
         · rfl
         · have:=T.decl
           rw[ay]at this;exact this.alloc _
         · exact Mj w3 _ _ _
         · rfl
         · unfold maxLen;omega
         · omega
         · simp;omega
         intro A4 c4 w4 q1 q2 P;have HF:=Hd (gC T oC oC q1 P);have J:=T.grown (B7 T.decl) P.1;obtain⟨cA,_,_,_,_,_⟩:=J.cells;have vA:=J.frozen 1;clear q1 q2 P J)
       | (
         go_simp;go_at_call 98;refine ao.mono ?_;intro e w3 hx;obtain⟨rfl,p,C⟩:=hx;have ab:=Hd p;have T:=Hd (ad.AA p (fun _ h=>h) C oA);obtain⟨d1,_,_,_,_,aj⟩:=C.cells;have v1:=C.frozen 1;have b4:wr.heap.size<=w3.heap.size:=p.size;clear p C))
     all_goals go_wp2
     all_goals go_roundg r3.length
     all_goals first
       | (case measure=>simp)
       | (case rel=>
          refine⟨oG A4 (n+1) c4,a++[t3],r3,rfl,Hd ?_,Hd ?_,Hd ?_⟩
          · have:=HF.1
            rw[List.append_assoc]at this;exact this
          · exact(HC.drew.next (ab.mono (fun _ h=>.inl h))).next HF.2
          · have h1:=a8.1
            have I:=a8.2;rw[List.takeWhile_cons (a:=t3),if_pos ah.out]at h1;rw[List.dropWhile_cons (x:=t3),if_pos ah.out]at I;exact⟨by rw[h1];simp,I⟩)
 ·have hk:(t.k==7)=false:=by simp[U]
  rw[hk]at H7;by_cases h8:t.k=8
  ·have a3:(t.k==8)=true:=by simp[h8]
   rw[a3]at H8;obtain⟨j,o,rfl⟩:=(h.A8.ended.tail nX).1.cons;have HD:=Hd h.drew;have HT:=Hd (HD.A8.take nX);obtain⟨_,b2,_,_,_,az⟩:=HD.A8.cells;have aw:=h.lm;have ax:=h.ls;simp at aw ax;have b8:=h.bB;have a4:Hid (j.k=1->C8 x (t::j::o)=.ok ({x with marks:=x.marks++[t.p],starts:=x.starts++[j]},o)):=Hd (fun e=>by simp[C8,h8,Cz,e]);have a5:Hid (j.k≠1->C8 x (t::j::o)=.error (DR (j::o))):=Hd (fun e=>by simp[C8,h8,Cz,e]);have b9:=ZS t.k t.p (str t.s);clear h U h8 hk a3;go_enter Tryz.func97,Tryz.ntmps97
   go_wp2_with (first
    | (go_at_call 96;with_reducible refine H7.out.mono ?_;rintro e R ⟨rfl,i⟩;subst i)
    | (go_at_call 96;with_reducible refine H8.out.mono ?_;rintro e R ⟨rfl,i⟩;subst i))
   go_region_law (first
    | (
      refine ER Qr (.tmp 34) (.tmp 38) ?_ ?_ (base:=B) (n:=x.marks.length) (m:=1) (N:=x.marks.length+1) (v:=oG A2 x.marks.length c2) (src:=oG (w3,0) 1 1) (xs:=x.marks.map Mark) (news:=[Mark t.p]) ?_ ?_ ?_ ?_ ?_ ?_ ?_ ?_ ?_
      · rfl
      · rfl
      · rfl
      · rfl
      · exact T.marks.alloc _
      · exact TN w3 _
      · rfl
      · unfold maxLen;omega
      · omega
      · simp;omega
      intro A4 c4 w4 q1 q2 P;have HF:=Hd (cF T oC oA q1 P);have J:=T.grown (B7 T.marks) P.1;obtain⟨_,cA,_,_,_,_⟩:=J.cells;have vA:=J.frozen 2;clear q1 q2 P J)
    | (
      go_simp;go_at_call 98;refine HT.mono ?_;intro e w3 hx;obtain⟨rfl,p,C⟩:=hx;have ab:=Hd p;have T:=Hd (HD.AA p (fun _ h=>h) C oA);obtain⟨_,d2,_,_,_,aj⟩:=C.cells;have v1:=C.frozen 2;have b4:w.heap.size<=w3.heap.size:=p.size;clear p C))
   all_goals go_wp2
   all_goals generalize b5:World.setCell w4 (rb,2) (oG A4 (x.marks.length+1) c4)=w5 at *
   all_goals clear b2 d2 v1 cA vA b5
   all_goals have a6:=Hd HF.1.drew
   all_goals have ae:=Hd ((((Am.refl (fun k=>k=rb\/B<=k) w).drew.next (ab.mono (fun _ h=>.inl h))).next HF.2).drew)
   all_goals have b7:=HF.1.bB
   all_goals have av:=HF.1.ld
   all_goals simp at av
   all_goals obtain⟨_,_,b3,_,_,ba⟩:=a6.A8.cells
   all_goals by_cases a2:j.k=1
   all_goals first
    | (
      have HW:=Hd (a6.A8.want 1 1 rfl a2 nX);replace a4:=Hd (a4 a2);clear a2 a5;go_region_law (first
        | (
          refine ER L5 (.tmp 46) (.tmp 49) ?_ ?_ (base:=B) (n:=x.starts.length) (m:=1) (N:=x.starts.length+1) (v:=oG A3 x.starts.length c3) (src:=oG (w6,0) 1 1) (xs:=x.starts.flatMap Tk.cells) (news:=j.cells) ?_ ?_ ?_ ?_ ?_ ?_ ?_ ?_ ?_
          · rfl
          · rfl
          · rfl
          · rfl
          · exact a7.starts.alloc _
          · exact Mj w6 _ _ _
          · rfl
          · unfold maxLen;omega
          · omega
          · simp;omega
          intro A6 c6 w7 q1 q2 P;have HG:=Hd (WB a7 oC oA q1 P);have J:=a7.grown (B7 a7.starts) P.1;obtain⟨_,_,cA,_,_,_⟩:=J.cells;have vA:=J.frozen 3;clear q1 q2 P J)
        | (
          go_simp;go_at_call 146;refine HW.mono ?_;intro e w6 hx;obtain⟨rfl,p,C⟩:=hx;have an:=Hd p;have a7:=Hd (a6.AA p (fun _ h=>h) C oA);obtain⟨_,_,d2,_,_,aj⟩:=C.cells;have v1:=C.frozen 3;have bc:w5.heap.size<=w6.heap.size:=p.size;clear p C))
      all_goals go_wp2
      all_goals refine bodyPost_ret (results_none rfl _ _ _) rfl ⟨(ae.next (an.mono (fun _ h=>.inl h))).next HG.2,?_⟩
      all_goals rw[a4.out]
      all_goals exact⟨rfl,_,_,_,HG.1⟩)
    | (
      have HW:=Hd (a6.A8.MK 1 1 rfl a2);replace a5:=Hd (a5 a2);clear a2 a4
      go_region_dies
      all_goals (refine HW.mono ?_;rintro e w6 ⟨rfl,aq⟩;exact⟨rfl,ae.next (.AJ aq),by rw[a5.out];exact BY.of rfl rfl⟩))
  ·have a3:(t.k==8)=false:=by simp[h8]
   rw[a3]at H8;have HE:Hid (C8 x (t::r)=.error (DR (t::r))):=Hd (by simp[C8,U,h8]);clear h U h8 hk a3;go_enter Tryz.func97,Tryz.ntmps97
   go_wp2_with (first
    | (go_at_call 96;with_reducible refine H7.out.mono ?_;rintro e R ⟨rfl,i⟩;subst i)
    | (go_at_call 96;with_reducible refine H8.out.mono ?_;rintro e R ⟨rfl,i⟩;subst i)
    | (go_at_call 145;refine al.mono ?_;rintro e R ⟨rfl,i⟩;subst i))
   refine⟨rfl,Am.refl _ _,?_⟩;rw[HE.out];exact BY.of rfl rfl
def ID{w:oU}{B i:Nat}{v:oV}(h:w.ownsRow B e size v n xs)(l:i<=B):w.ownsRow i e size v n xs:=by
 refine⟨h.1,?_⟩;rcases h.2 with p|⟨g,cap,j,rfl,o,rest⟩
 ·exact .inl p
 ·exact .inr ⟨g,cap,j,rfl,AW l o,rest⟩
structure GS where
 s:PS
 v:oV
def GS.cells(q:GS):List oV:=[q.v,oH oO q.s.p]
structure Bu where
 left:Tk
 v:oV
 ss:List GS
def Bu.cells(r:Bu):List oV:=[oH oO r.left.k,oJ (str r.left.s),oH oO r.left.p,r.v]
def Bu.r(r:Bu):PR:=⟨r.left,r.ss.map GS.s⟩
def IM(w:oU)(B:Nat)(q:GS):Prop:=w.ownsRow B 170 3 q.v q.s.l.length (q.s.l.flatMap Tk.cells)
def IU(w:oU)(B:Nat)(r:Bu):Prop:=w.ownsRow B 180 2 r.v r.ss.length (r.ss.flatMap GS.cells)/\∀q∈r.ss,IM w B q
def IM.AA{w:oU}{B:Nat}{q:GS}(h:IM w B q)(j:Am X w w')(l:∀g,B<=g->g<w.heap.size->¬X g):IM w' B q:=
 j.own h (fun g i=>l g (B7 h g i).1 (B7 h g i).2)
def IU.AA{w:oU}{B:Nat}{r:Bu}(h:IU w B r)(i:Am X w w')(l:∀g,B<=g->g<w.heap.size->¬X g):IU w' B r:=
 ⟨i.own h.1 (fun g j=>l g (B7 h.1 g j).1 (B7 h.1 g j).2),fun q o=>(h.2 q o).AA i l⟩
def TI:El Tryz.prog 175 180 2 32:=El.of (z:=.agg #[oG oN 0 0,oH oO 0]) Tryz.underlying175 nZ rfl nY
def gT:El Tryz.prog 134 177 4 56:=El.of (z:=.agg #[oH oO 0,oJ ⟨#[]⟩,oH oO 0,oG oN 0 0]) Tryz.underlying134 nZ rfl nY
def Vq(y:oU)(A:Option Addr)(n c:Nat)(p:Int):Be (y.alloc (oP #[oG A n c,p] 180)) (oG (y,0) 1 1) 1 2 [oG A n c,oH oO p]:=
 Be.Aj (c:=1) (Ah.new y 180 #[oG A n c,p]) rfl oE
structure Ht(w:oU)(rb:Nat)(f1 f2 f3 f4 f5:oV)(tb:Option Nat)(bb:Nat)(t:Tk)(sv:oV)(ss:List GS)(rest:List Tk)(wr:oU):Prop where
 A8:Ct wr rb f1 f2 f3 f4 f5 tb rest
 Aj:Ah wr bb 177 #[t.k,oJ (str t.s),t.p,sv]
 own:wr.ownsRow w 180 2 sv ss.length (ss.flatMap GS.cells)
 Hz:∀q∈ss,IM wr w.heap.size q
 AA:Am (·=rb) w wr
 bb:w.heap.size<=bb
 rb:rb<w.heap.size
 tb:∀g,tb=oM g->g<w.heap.size
namespace Ht
variable {w wr:oU} {rb:Nat} {f1 f2 f3 f4 f5:oV} {tb:Option Nat} {bb:Nat} {t:Tk} {sv:oV} {ss:List GS} {rest:List Tk}
def later(h:Ht w rb f1 f2 f3 f4 f5 tb bb t sv ss rest wr){j:oU}{l:List Tk}(i:Am (·=rb) wr j)(p:Ct j rb f1 f2 f3 f4 f5 tb l):Ht w rb f1 f2 f3 f4 f5 tb bb t sv ss l j:=by have J:=h.rb;have I:=h.bb;exact⟨p,i.Aj h.Aj nX,i.own h.own (C0 h.own h.rb),fun q o=>(h.Hz q o).AA i (fun g C _ e=>by omega),h.AA.next i,h.bb,h.rb,h.tb⟩
def drew(h:Ht w rb f1 f2 f3 f4 f5 tb bb t sv ss rest wr):Ht w rb f1 f2 f3 f4 f5 tb bb t sv ss rest wr.drew:=h.later ((Am.refl _ _).drew) h.A8.drew
def rel(h:Ht w rb f1 f2 f3 f4 f5 tb bb t sv ss rest wr){l:oU}{A:Option Addr}{c:Nat}(hn:j=j)
  (a3:Am (·=rb) wr l) (C:Ct l rb f1 f2 f3 f4 f5 tb (rest.dropWhile Bi)) (a5:l.ownsRow wr 170 3 (oG A (BU rest).l.length c) (BU rest).l.length ((BU rest).l.flatMap Tk.cells))
  (r1:w2.ownsRow w 180 2 (oG j (ss.length+1) c2) (ss.length+1) (ss.flatMap GS.cells++[oG A (BU rest).l.length c,oH oO (BU rest).p]))
  (o:AI w [180] (l.alloc (oP #[oG A (BU rest).l.length c,oH oO (BU rest).p] 180)) w2) :
  Ht w rb f1 f2 f3 f4 f5 tb bb t (oG j (ss.length+1) c2) (ss++[⟨BU rest,oG A (BU rest).l.length c⟩]) (rest.dropWhile Bi) (w2.setCell (bb,3) (oG j (ss.length+1) c2)):=by
 have J:=h.later a3 C;have a6:=h.rb;have a0:=h.bb;have a7:rb≠bb:=by omega
 have a8:w.heap.size<=wr.heap.size:=h.AA.size;have P:Ah w2 bb 177 #[t.k,oJ (str t.s),t.p,sv]:=o.Aj (J.Aj.alloc _) (.inr nY);have a4:Am (·=rb) w w2:=(J.AA.alloc _).keeps o;have a1:∀q,IM l w.heap.size q->IM (w2.setCell (bb,3) (oG j (ss.length+1) c2)) w.heap.size q:=by
  intro q i;have U:IM w2 w.heap.size q:=o.own ((Am.refl (fun _=>False) l).alloc _ |>.own i (fun _ _=>id)) (.inr nY);refine EB U ?_ _;intro e;rcases Bj U with⟨I,_⟩|⟨b,c,I,_,_,_,_,a2,R⟩
  ·rw[I]at e;cases e
  ·rw[I]at e
   cases e
   exact Ah.Bb (t:=170) R P nY rfl
 refine⟨⟨?_,C.ended,C.ne⟩,by simpa using P.Ba 3 _,?_,?_,a4.set (p:=⟨bb,3,oN⟩) (.inl a0) _,a0,a6,h.tb⟩
 ·obtain⟨lv,k1,k2,k3⟩:=C.ex
  refine⟨lv,(o.Aj (k1.alloc _) (.inr nY)).Bz (by simpa using a7) _,?_,k3⟩;obtain⟨b,off,c,cs,rfl,T⟩:=k2;have hb:=h.tb b (by rw[<-k3];rfl);exact⟨b,off,c,cs,rfl,(o.Aj (T.Aj.alloc _) (.inl hb)).Bz oC _,T.cap,T.cell⟩
 ·rw[show (ss++[⟨BU rest,oG A (BU rest).l.length c⟩]:List GS).length=ss.length+1 by simp,List.flatMap_append]
  refine EB (by simpa [GS.cells] using r1) ?_ _;intro p;rcases Bj r1 with⟨e,_⟩|⟨b,c,e,_,_,_,_,a2,R⟩
  ·rw[e]at p;cases p
  ·rw[e]at p
   cases p
   exact Ah.Bb (t:=180) R P nY rfl
 ·intro q i
  rcases mA.1 i with i|i
  ·exact a1 q (J.Hz q i)
  ·rw[mS]at i
   subst i;exact a1 _ (ID a5 a8)
end Ht
section
open Go.RowKit Go.Maps
def IY:Keyed Tryz.prog 9:=string_keyed Tryz.underlying9
def LG(w:oU):(zeroValue 3).run Tryz.prog w=.ok (oH oO 0) w:=by kernel_rfl
def Cj(s:List UInt8):Lit:=.string s
def Nr(s:List UInt8):WideAt.IsKeyLit (Cj s):=by unfold Cj;simp[WideAt.IsKeyLit]
def OH{a b:List UInt8}(h:Cj a=Cj b):a=b:=by unfold Cj at h;injection h
def Jm(D:DataW Unit)(L:List (List UInt8)):Prop:=∀s,D.atKey (Cj s) (.lit (.int oO 0))=.lit (.int oO (L.count s))
def Jm.start:Jm (.map []) []:=fun s=>rfl
def Jm.next{D:DataW Unit}{L:List (List UInt8)}(h:Jm D L)(j:Maps.Tidy D)(s:List UInt8):Jm (D.put (Cj s) (.lit (.int oO (L.count s+1)))) (L++[s]):=by
 intro u;rw[List.count_append];by_cases e:u=s
 ·subst e
  rw[Maps.atKey_put_same j.isMap (Nr _)];simp
 ·rw[Maps.atKey_put_other (fun i=>e (OH i)),h u]
  have:List.count u [s]=0:=by rw[List.count_eq_zero];simpa using e
  rw[this,Nat.add_zero]
def Ed{w:oU}{D:DataW Unit}(h:w.ownsMap Tryz.prog 9 (plainElem Tryz.prog 3) b n D)(l:Am X w w')(o:¬X b):w'.ownsMap Tryz.prog 9 (plainElem Tryz.prog 3) b n D:=by obtain⟨j,clock,i,rest⟩:=h;exact⟨j,clock,(l.block b (aG.1 i).1 o).trans i,rest⟩
structure DP(w:oU)(B rb mb:Nat)(tb:Option Nat)(l:List Tk)(x:Bl)(dv kv sv rv:oV)(rs:List Bu)(D:DataW Unit):Prop where
 Bw:C7 w B rb rv (.map (oM mb)) tb l x dv kv sv
 rules:w.ownsRow B 177 4 rv rs.length (rs.flatMap Bu.cells)
 Hz:∀r∈rs,IU w B r
 map:w.ownsMap Tryz.prog 9 (plainElem Tryz.prog 3) mb rs.length D
 LS:Jm D (rs.map fun r=>r.left.s)
 Pz:mb<B
 mr:mb≠rb
 lr:rs.length+l.length<=100000
def IU.past{w:oU}{B rb:Nat}{r:Bu}{rv:oV}(h:IU w B r)(p:w.ownsRow B 177 4 rv n xs)(t:rb<B)(o:Am (fun k=>k=rb\/rv.ownBlock=oM k) w w'):IU w' B r:=by
 refine⟨o.own h.1 ?_,fun q l=>o.own (h.2 q l) ?_⟩
 ·rintro g i (rfl|j)
  ·exact C0 h.1 t _ i rfl
  ·exact Gs p h.1 nY g j i
 ·rintro g i (rfl|j)
  ·exact C0 (h.2 q l) t _ i rfl
  ·exact Gs p (h.2 q l) nY g j i
structure J8(w w7:oU)(B rb mb bb:Nat)(tb:Option Nat)(l:List Tk)(x:Bl)(dv kv sv rv:oV)(rs:List Bu)(q:Bu)(D:DataW Unit):Prop where
 Bw:C7 w7 B rb rv (.map (oM mb)) tb l x dv kv sv
 rules:w7.ownsRow B 177 4 rv (rs.length+1) ((rs++[q]).flatMap Bu.cells)
 Hz:∀r∈rs++[q],IU w7 B r
 map:w7.ownsMap Tryz.prog 9 (plainElem Tryz.prog 3) mb rs.length D
 Aj:Ah w7 bb 177 #[q.left.k,oJ (str q.left.s),q.left.p,q.v]
 AA:Am (fun k=>k=rb\/B<=k) w w7
def dR{w I w6:oU}{B rb mb bb:Nat}{tb:Option Nat}{l rest:List Tk}{x:Bl}{dv kv sv rv bv:oV}{j:List Bu}{D:DataW Unit}{t:Tk}{ss:List GS}{J:Option Addr}{P:Nat}
  (h:DP w B rb mb tb l x dv kv sv rv j D) (p:Ht w rb dv kv sv rv (.map (oM mb)) tb bb t bv ss rest I) (hl:rest.length<=l.length)
  (r1:w6.ownsRow B 177 4 (oG J (j.length+1) P) (j.length+1) (j.flatMap Bu.cells++[oH oO t.k,oJ (str t.s),oH oO t.p,bv]))
  (r3:(I.alloc o).grownBy w6 rv.ownBlock/\((Value.slice J (j.length+1) P).ownBlock=rv.ownBlock\/(Value.slice J (j.length+1) P).ownBlock=oM (I.alloc o).heap.size)) :
  J8 w (w6.setCell (rb,4) (oG J (j.length+1) P)) B rb mb bb tb rest x dv kv sv (oG J (j.length+1) P) j ⟨t,bv,ss⟩ D:=by
 have a0:=h.Bw.EA;have a8:=p.bb;have a3:=h.Bw.bB;have i:C7 I B rb rv (.map (oM mb)) tb rest x dv kv sv:=h.Bw.AA p.AA (fun _ h=>h) p.A8 hl;have a2:I.ownsRow B 177 4 rv j.length (j.flatMap Bu.cells):=p.AA.own h.rules (C0 h.rules a0);have hX:Am (fun k=>rv.ownBlock=oM k) I w6:=((Am.refl _ I).alloc o).next (.CM r3.1);have a1:∀k,rv.ownBlock=oM k->B<=k:=fun k hk=>(B7 h.rules k hk).1
 have a5:∀k,rv.ownBlock=oM k->k<w.heap.size:=fun k hk=>(B7 h.rules k hk).2
 have R:Am (fun k=>k=rb\/rv.ownBlock=oM k) I (w6.setCell (rb,4) (oG J (j.length+1) P)):=(hX.mono (fun a4 hi=>.inr hi)).set (p:=⟨rb,4,oN⟩) (.inr (.inl rfl)) _;have e1:¬rv.ownBlock=oM rb:=fun e=>by have:=a1 _ e;omega
 have a7:Ct (w6.setCell (rb,4) (oG J (j.length+1) P)) rb dv kv sv (oG J (j.length+1) P) (.map (oM mb)) tb rest:=by
  obtain⟨lv,k1,k2,k3⟩:=p.A8.ex;refine⟨⟨lv,by simpa using(hX.Aj k1 e1).Ba 4 _,k2.AA R ?_,k3⟩,p.A8.ended,p.A8.ne⟩;intro g C;rw[k3]at C;rintro(rfl|U)
  ·exact p.A8.ne C
  ·have:=h.Bw.GA g C;have:=a1 g U;omega
 have a6:∀r∈j++[(⟨t,bv,ss⟩:Bu)],IU I B r:=by
  intro r T;rcases mA.1 T with T|T
  ·exact(h.Hz r T).AA p.AA (fun g h1 _ e=>by omega)
  ·rw[mS]at T
   subst T;exact⟨ID p.own a3,fun q hq=>ID (p.Hz q hq) a3⟩
 have hT:Am (fun k=>k=rb\/B<=k) I (w6.setCell (rb,4) (oG J (j.length+1) P)):=R.mono (fun a4 hi=>hi.imp id (a1 a4));refine⟨?_,?_,fun r T=>(a6 r T).past a2 a0 R,?_,?_,(p.AA.mono (fun _ h=>.inl h)).next hT⟩
 ·refine⟨a7,R.own i.decl ?_,R.own i.marks ?_,R.own i.starts ?_,i.apart,i.EA,i.GA,AW i.bB R.size,i.ld,i.lm,i.ls⟩
  ·rintro g C (rfl|U)
   ·exact C0 i.decl a0 _ C rfl
   ·exact Gs a2 i.decl nY g U C
  ·rintro g C (rfl|U)
   ·exact C0 i.marks a0 _ C rfl
   ·exact Gs a2 i.marks nY g U C
  ·rintro g C (rfl|U)
   ·exact C0 i.starts a0 _ C rfl
   ·exact Gs a2 i.starts nY g U C
 ·rw[List.flatMap_append]
  exact EB (by simpa [Bu.cells] using r1) (fun e=>C0 r1 a0 _ e rfl) _
 ·refine Ed (Ed h.map p.AA h.mr) R ?_
  rintro(e|e)
  ·exact h.mr e
  ·have:=a1 _ e;have:=h.Pz;omega
 ·refine R.Aj p.Aj ?_
  rintro(rfl|e)
  ·have:=p.rb;omega
  ·have:=a5 _ e;omega
def Am.of_map{w:oU}(h:w.grownBy w' (oM b)):Am (·=b) w w':=⟨h.os,h.tape,h.output,h.size,fun k i j=>h.block k i (fun e=>j (by injection e))⟩
def J8.last{w T p:oU}{B rb mb U:Nat}{tb:Option Nat}{l R:List Tk}{x:Bl}{t J rv a3:oV}{j:List Bu}{q:Bu}{D:DataW Unit}
  (h0:DP w B rb mb tb R x t I J a3 j D) (hl:l.length<R.length) (h:J8 w T B rb mb U tb l x t I J rv j q D) (hg:T.grownBy p (oM mb))
  (hm:p.ownsMap Tryz.prog 9 (plainElem Tryz.prog 3) mb (j.length+1) (D.put (Cj q.left.s) (.lit (.int oO ((j.map fun r=>r.left.s).count q.left.s+1))))) :
  DP p B rb mb tb l x t I J rv (j++[q]) (D.put (Cj q.left.s) (.lit (.int oO ((j.map fun r=>r.left.s).count q.left.s+1))))/\Am (fun k=>k=rb\/B<=k\/k=mb) w p:=by
 have i:=Am.of_map hg;have o:=h0.Pz;have a1:=h0.Bw.EA;have a4:=h0.lr;have a5:=h.Bw.A8.lt;refine⟨⟨?_,?_,fun r hr=>(h.Hz r hr).AA i (fun g h1 _ e=>by omega),by simpa using hm,?_,o,h0.mr,oC⟩,(h.AA.mono (fun a2 C=>C.imp id .inl)).next (i.mono (fun a2 C=>.inr (.inr C)))⟩
 ·exact⟨h.Bw.A8.AA i (Ne.symm h0.mr) (fun g P e=>by
   subst e;obtain⟨lv,_,k2,k3⟩:=h.Bw.A8.ex;obtain⟨b,off,c,cs,rfl,a0⟩:=k2;rw[<-k3]at P;cases P
   obtain⟨es,clock,hb,_⟩:=h.map;have:=a0.Aj;unfold Ah at this;rw[hb]at this;cases this),i.own h.Bw.decl (C0 h.Bw.decl o),i.own h.Bw.marks (C0 h.Bw.marks o),i.own h.Bw.starts (C0 h.Bw.starts o),h.Bw.apart,a1,h.Bw.GA,AW h.Bw.bB i.size,h.Bw.ld,h.Bw.lm,h.Bw.ls⟩
 ·rw[show (j++[q]).length=j.length+1 by simp]
  exact i.own h.rules (C0 h.rules o)
 ·rw[BB]
  exact h0.LS.next (h0.map.tidy IY) q.left.s
end
