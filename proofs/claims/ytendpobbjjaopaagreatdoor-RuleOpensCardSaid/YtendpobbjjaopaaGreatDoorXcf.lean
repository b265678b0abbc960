/- . -/
import Derived.Test.YtendpobbjjaopaaGreatDoorXce
import Derived.Test.YtendpobbjjaopaaGreatDoorXca
set_option linter.all false
set_option maxRecDepth 100000
set_option maxHeartbeats 16000000
namespace Go.Proofs.YtendpobbjjaopaaGreatDoor
open Go.RowKit Go.Proofs.Tryz
open Value renaming slice→oG,int→oH,pointer→oI,string→oJ,bool→oK
open Option renaming some→oM,none→oN
open Obj renaming cells→oP
open Ending renaming returned→oQ
open World renaming cell?→oT
open Go renaming World→oU
variable{Fn:Nat}{i:oU}{v:Value}{o:Obj}{A l:Option Addr}
def KE(w:oU)(l:List UInt8):(convert 69 9 (oG (oM ⟨w.heap.size,0,oN⟩) l.length l.length)).run Tryz.prog (w.alloc (oP (l.map fun c=>Value.int .u8 c.toNat).toArray 5))=.ok (oJ ⟨l.toArray⟩) (w.alloc (oP (l.map fun c=>Value.int .u8 c.toNat).toArray 5)):=by
 refine run_convert_bytes_back (P:=Tryz.prog) _ 69 9 5 ⟨w.heap.size,0,oN⟩ l.length l underlying69 underlying5 underlying9 fun j o=>?_
 have i:(⟨w.heap.size,0,oN⟩:Addr).add j=⟨w.heap.size,j,oN⟩:=by unfold Addr.add;split<;>simp_all
 rw[i,(Ah.new w 5 _).cell j];simp[o]
def MP(l:List UInt8)(c:UInt8):Bool:=decide (0<=Lib.indexByte l c)
def Tt(c:UInt8)(w:oU):Calls Tryz.prog 122 #[oH .u8 c.toNat] w fun e w'=>e=oQ (oK (MP [45,61,63,43] c))/\w'=w:=by
 go_enter func122,ntmps122
 go_wp2_with fail
 refine(MG _ _ _).mono ?_;rintro e w' ⟨rfl,rfl⟩;go_wp2;go_ret;exact⟨rfl,rfl⟩
def Qk(c:UInt8)(w:oU):Calls Tryz.prog 119 #[oH .u8 c.toNat] w fun e w'=>e=oQ (oK (MP [64,42,35,63,45,36,33] c))/\w'=w:=by
 go_enter func119,ntmps119
 go_wp2_with fail
 refine(MG _ _ _).mono ?_;rintro e w' ⟨rfl,rfl⟩;go_wp2;go_ret;exact⟨rfl,rfl⟩
section
variable {w0 w:oU} {N g:Nat} {x:TM}
def AK.SU(h:AK w0 N g w x)(j:2<=N)(c:UInt8):AK w0 N g ((w.alloc (oP #[oH .u8 c.toNat] 5)).setCell ⟨g,7,oN⟩ (oG (oM ⟨w.heap.size,0,oN⟩) 1 1)) {x with buf:=oG (oM ⟨w.heap.size,0,oN⟩) 1 1}:=by have i:=h.below (AG w (oP #[oH .u8 c.toNat] 5));exact i.set 7 _ _ rfl rfl rfl rfl ⟨i.took,i.plain,(NB w h.le c).mono j⟩
def Rj(w:oU)(o:Obj){p:Addr}(h:p.block<w.heap.size)(u:Value):(w.alloc o).setCell p u=(w.setCell p u).alloc o:=by
 simp only[World.setCell,World.alloc];congr 1;apply Array.ext_getElem?;intro i;simp only[Array.getElem?_modify,Array.getElem?_push,Array.size_modify];by_cases j:p.block=i
 ·subst j
  have l:¬p.block=w.heap.size:=by omega
  simp[l]
 ·simp[j]
def Vu(h:AK w0 N g w x)(t:N<=700000)(c:UInt8) :
  Calls Tryz.prog 120 #[oI (oM ⟨g,0,oN⟩),oH .i64 0,oH .u8 c.toNat] w (Cc w0 (N+4) g):=by
 have l:=Hd h;clear h;go_enter func120,ntmps120
 go_wp2_with fail
 refine(KP l.out 0 nX).mono ?_;rintro e I ⟨rfl,i⟩;have C:=i.Aj.cell 1;simp only[TM.cells,Iv,List.getElem?_toArray,List.getElem?_cons_zero,List.getElem?_cons_succ]at C;have o:=Hd i;clear i;go_wp2_with fail
 refine(N5 o.out t c).mono ?_;rintro e J ⟨s,rfl,j⟩;have p:=Hd j;clear j;go_wp2;go_ret;exact⟨_,rfl,p.out⟩
def MU(h:AK w0 N g w x)(hN:N<=700000)(op:ByteArray) :
  Calls Tryz.prog 123 #[oI (oM ⟨g,0,oN⟩),oJ op] w fun e w'=>e=oQ (oH .i64 0)/\∃p,AK w0 (N+1) g w' p/\p.kind=0:=by
 have i:=h.buf;obtain⟨P,T,R,j,-⟩:=id i;have I:=h.Aj.cell 7;simp only[TM.cells,List.getElem?_toArray,List.getElem?_cons_zero,List.getElem?_cons_succ,j]at I;rw[j]at i;obtain⟨s,-,o⟩:=LL (P:=Tryz.prog) underlying69 underlying5 underlying9 i;have U:=o w (Below.refl _ w);have t:=Hd h;clear h i j o;go_enter func123,ntmps123
 go_wp2_with fail
 refine(Ud t.out nX 2 s op).mono ?_;rintro e w2 ⟨rfl,y,l,J⟩;have C:=Hd l;clear l;go_wp2;go_ret;exact⟨rfl,y,C.out,J⟩
def Ys(h:AK w0 N g w x)(c:UInt8) :
  Calls Tryz.prog 76 #[oI (oM ⟨g,0,oN⟩),oH .u8 c.toNat] w (Cc w0 N g):=by
 have t:=h.Aj.cell 7;have C:=h.Aj.cell 8;have J:=h.Aj.frozen 7;have P:=h.Aj.frozen 8;simp only[TM.cells,List.getElem?_toArray,List.getElem?_cons_zero,List.getElem?_cons_succ]at t C;have j:=h.Qz;have p:=Hd (j.set 8 (oH .i64 0) {x with buf:=oG oN 0 0,deep:=0} rfl rfl rfl rfl j.Jl);have o:=Hd h;clear h j;go_enter func76,ntmps76
 go_wp2_with (first
  | (
   go_at_call 114;refine(Dd p.out 13 nX).mono ?_;rintro e I ⟨rfl,i⟩
   have l:=Hd i;clear i)
  | (
   go_at_call 45;refine(KP o.out 15 nX).mono ?_;rintro e I ⟨rfl,i⟩
   have l:=Hd i;clear i))
 all_goals go_ret
 all_goals exact⟨_,rfl,_,l.out⟩
def Zy(h:AK w0 N g w x)(C:N<=700000)(c:UInt8) :
  Calls Tryz.prog 82 #[oI (oM ⟨g,0,oN⟩),oH .u8 c.toNat] w (Cc w0 (N+1) g):=by
 have R:(convert 69 9 (oG (oM ⟨w.heap.size,0,oN⟩) 2 2)).run Tryz.prog (w.alloc (oP #[oH .u8 58,oH .u8 c.toNat] 5))=.ok (oJ ⟨#[58,c]⟩) (w.alloc (oP #[oH .u8 58,oH .u8 c.toNat] 5)):=KE w [58,c];have o:=Hd h;have p:=Hd (h.below (AG w (oP #[oH .u8 58,oH .u8 c.toNat] 5)));clear h;generalize l:MP [45,61,63,43] c=k;have t:∀y,Hid (Calls Tryz.prog 122 #[oH .u8 c.toNat] y fun e J=>e=oQ (oK k)/\J=y):=fun y=>Hd (l▸Tt c y)
 clear l;cases k
 all_goals go_enter func82,ntmps82
 all_goals go_wp2_with (first
  | (go_at_call 122;refine(t _).out.mono ?_;rintro e T ⟨rfl,I⟩;subst I)
  | (
   go_at_call 111;refine(Jp o.out).mono ?_;rintro e P ⟨rfl,i⟩
   have j:=Hd (i.mono (M:=N+1) nX);clear i)
  | (
   go_at_call 123;refine(MU p.out C ⟨#[58,c]⟩).mono ?_;rintro e P ⟨rfl,y,i,-⟩
   have j:=Hd i;clear i))
 all_goals go_ret
 all_goals exact⟨_,rfl,_,j.out⟩
def QI(h:AK w0 N g w x)(I:2<=N)(c:UInt8) :
  Calls Tryz.prog 121 #[oI (oM ⟨g,0,oN⟩),oH .u8 c.toNat] w (Cc w0 N g):=by
 have R:=h.Aj.cell 7;have f7:=h.Aj.frozen 7;simp only[TM.cells,List.getElem?_toArray,List.getElem?_cons_zero,List.getElem?_cons_succ]at R;have J:=h.Aj.lt;have a0:¬g=w.heap.size:=by omega
 have a1:¬w.heap.size=g:=by omega
 have o:=h.SU I c;rw[Rj w _ (p:=⟨g,7,oN⟩) J]at o;have j:=Hd o;clear h o;generalize P:Bo c=k at *;have C:∀y,Hid (Calls Tryz.prog 53 #[oH .u8 c.toNat] y fun e T=>e=oQ (oH .i64 k)/\T=y):=fun y=>Hd (P▸I4 c y)
 go_enter func121,ntmps121
 go_wp2_with (first
  | (go_at_call 53;refine(C _).out.mono ?_;rintro e U ⟨rfl,p⟩;subst p)
  | (go_at_call 119;refine(Qk c _).mono ?_;rintro e U ⟨rfl,p⟩;subst p)
  | (
   go_at_call 114;refine(Dd j.out 7 nX).mono ?_;rintro e t ⟨rfl,i⟩
   have l:=Hd i;clear i)
  | (
   go_at_call 114;refine(Dd j.out 8 nX).mono ?_;rintro e t ⟨rfl,i⟩
   have l:=Hd i;clear i)
  | (
   go_at_call 114;refine(Dd j.out 9 nX).mono ?_;rintro e t ⟨rfl,i⟩
   have l:=Hd i;clear i)
  | (
   go_at_call 111;refine(Jp j.out).mono ?_;rintro e t ⟨rfl,i⟩
   have l:=Hd i;clear i))
 all_goals go_ret
 all_goals exact⟨_,rfl,_,l.out⟩
theorem bZ(h:AK w0 N g w x)(J:N<=700000)(C:2<=N)(c:UInt8) :
  Calls Tryz.prog 79 #[oI (oM ⟨g,0,oN⟩),oH .u8 c.toNat] w (Cc w0 (N+2) g):=by
 have j:=Hd h;clear h;go_enter func79,ntmps79
 go_wp2_with (first
  | (
   go_at_call 118;refine(IT j.out nX _ _ _ _ _ _ _ _ _).mono ?_;rintro e P ⟨rfl,t,o⟩
   have p:=Hd o;clear o)
  | (
   go_at_call 114;refine(Dd p.out 0 nX).mono ?_;rintro e I ⟨rfl,i⟩
   have l:=Hd (i.ex (Ay _));clear i)
  | (
   go_at_call 121;refine(QI j.out C c).mono ?_;rintro e I ⟨s,rfl,y,i⟩
   have l:=Hd (i.ex (M:=N+2) nX);clear i))
 all_goals go_ret
 all_goals exact⟨_,rfl,l.out⟩
def dU(h:AK w0 N g w x)(t:2<=N)(c:UInt8) :
  Calls Tryz.prog 78 #[oI (oM ⟨g,0,oN⟩),oH .u8 c.toNat] w (Cc w0 N g):=by
 have C:=h.Aj.cell 9;have J:=h.Aj.frozen 9;simp only[TM.cells,List.getElem?_toArray,List.getElem?_cons_zero,List.getElem?_cons_succ]at C;have j:=h.set 9 (oK false) {x with length:=false} rfl rfl rfl rfl h.Jl;have o:=Hd j;have p:=Hd (j.set 9 (oK true) {x with length:=true} rfl rfl rfl rfl j.Jl);clear h j;go_enter func78,ntmps78
 go_wp2_with (first
  | (
   go_at_call 114;refine(Dd p.out 6 nX).mono ?_;rintro e I ⟨rfl,i⟩
   have l:=Hd (i.ex (Ay _));clear i)
  | (
   go_at_call 121;refine(QI o.out t c).mono ?_;rintro e I ⟨s,rfl,y,i⟩
   have l:=Hd (i.ex (Ay _));clear i))
 all_goals go_ret
 all_goals exact⟨_,rfl,l.out⟩
def jH(h:AK w0 N g w x)(hN:N<=700000)(c:UInt8) :
  Calls Tryz.prog 86 #[oI (oM ⟨g,0,oN⟩),oH .u8 c.toNat] w (Cc w0 (N+2) g):=by
 have j:=h.buf;obtain⟨R,U,T,l,-⟩:=id j;have J:=h.Aj.cell 7;simp only[TM.cells,List.getElem?_toArray,List.getElem?_cons_zero,List.getElem?_cons_succ,l]at J;rw[l]at j;obtain⟨s,-,C⟩:=LL (P:=Tryz.prog) underlying69 underlying5 underlying9 j;have a0:=C w (Below.refl _ w);have o:=Hd h;clear h j l C;go_enter func86,ntmps86
 go_wp2_with (first
  | (
   go_at_call 118;refine(IT o.out nX _ _ _ _ _ _ _ _ _).mono ?_;rintro e w2 ⟨rfl,a1,t⟩
   have I:=Hd t;clear t)
  | (
   go_at_call 114;refine(Dd I.out 0 nX).mono ?_;rintro e P ⟨rfl,i⟩
   have p:=Hd (i.ex (Ay _));clear i)
  | (
   go_at_call 111;refine(Jp o.out).mono ?_;rintro e P ⟨rfl,i⟩
   have p:=Hd (i.ex (M:=N+2) nX);clear i))
 all_goals go_ret
 all_goals exact⟨_,rfl,p.out⟩
end
section
variable {w0 w:oU} {N g:Nat} {x:TM}
def Wi(w:oU)(c:UInt8):Be (w.alloc (oP #[oH .u8 c.toNat] 5)) (oG (oM ⟨w.heap.size,0,oN⟩) 1 1) 1 1 [oH .u8 c.toNat]:=
 Be.Aj (c:=1) (Ah.new w 5 _) rfl oE
def JB{B j M:Nat}{i:Option Addr}(h:Sl B M w 5 1 v)(p:v=oG i Fn j)(l:B<=w.heap.size)(t:M<=1000000)(c:UInt8):JL Tryz.prog (w.alloc (oP #[oH .u8 c.toNat] 5)) 69 5 1 1 B Fn j 1 i (oG (oM ⟨w.heap.size,0,oN⟩) 1 1):=by
 subst p;obtain⟨_,_,_,e,C,_⟩:=id h;cases e
 exact Pd (h.up (.below (AG w _)) (.inl rfl) (Ay _)) (Wi w c) (fun u o _=>⟨c,by simpa using o⟩) nX nX (AW l (AG w _).size)
def AK.one(h:AK w0 N g w x){j:Option Addr}{l k:Nat}(hF:Sl w0.heap.size N w 5 1 v)(t:v=oG j Fn l)(C:Sl w0.heap.size (Fn+1) i 5 1 (oG A (Fn+1) k))(I:Up (w.alloc o) i)(J:(w.alloc o).grownBy i (Value.slice j Fn l).ownBlock) :
  AK w0 (N+1) g i x/\Sl w0.heap.size (N+1) i 5 1 (oG A (Fn+1) k):=by
 subst t;have p:=AG w o;obtain⟨_,_,_,e,P,_⟩:=id hF;cases e
 exact⟨(h.below p).app (.inl rfl) (hF.up (.below p) (.inl rfl) (Ay _)) I J nX,C.mono nX⟩
def AK.K9(h:AK w0 N g w x){p k:Nat}(t:x.buf=oG l Fn p)(I:Sl w0.heap.size (Fn+1) i 5 1 (oG A (Fn+1) k))(J:Up (w.alloc o) i)(P:(w.alloc o).grownBy i (Value.slice l Fn p).ownBlock) :
  (oT i ⟨g,7,oN⟩=oM (oG l Fn p)/\i.frozen? ⟨g,7,oN⟩=false)/\AK w0 (N+1) g (i.setCell ⟨g,7,oN⟩ (oG A (Fn+1) k)) {x with buf:=oG A (Fn+1) k}:=by
 obtain⟨j,C⟩:=h.one h.buf t I J P;have q:=j.Aj.cell 7;simp only[TM.cells,List.getElem?_toArray,List.getElem?_cons_zero,List.getElem?_cons_succ,t]at q;exact⟨⟨q,j.Aj.frozen 7⟩,j.set 7 _ _ rfl rfl rfl rfl ⟨j.took,j.plain,C⟩⟩
def AK.Sr(h:AK w0 N g w x){p k:Nat}(t:x.took=oG l Fn p)(I:Sl w0.heap.size (Fn+1) i 5 1 (oG A (Fn+1) k))(J:Up (w.alloc o) i)(P:(w.alloc o).grownBy i (Value.slice l Fn p).ownBlock) :
  (oT i ⟨g,3,oN⟩=oM (oG l Fn p)/\i.frozen? ⟨g,3,oN⟩=false)/\AK w0 (N+1) g (i.setCell ⟨g,3,oN⟩ (oG A (Fn+1) k)) {x with took:=oG A (Fn+1) k}:=by
 obtain⟨j,C⟩:=h.one h.took t I J P;have q:=j.Aj.cell 3;simp only[TM.cells,List.getElem?_toArray,List.getElem?_cons_zero,List.getElem?_cons_succ,t]at q;exact⟨⟨q,j.Aj.frozen 3⟩,j.set 3 _ _ rfl rfl rfl rfl ⟨C,j.plain,j.buf⟩⟩
def AK.mZ(h:AK w0 N g w x){p k:Nat}(t:x.plain=oG l Fn p)(I:Sl w0.heap.size (Fn+1) i 5 1 (oG A (Fn+1) k))(J:Up (w.alloc o) i)(P:(w.alloc o).grownBy i (Value.slice l Fn p).ownBlock) :
  (oT i ⟨g,4,oN⟩=oM (oG l Fn p)/\i.frozen? ⟨g,4,oN⟩=false)/\AK w0 (N+1) g (i.setCell ⟨g,4,oN⟩ (oG A (Fn+1) k)) {x with plain:=oG A (Fn+1) k}:=by
 obtain⟨j,C⟩:=h.one h.plain t I J P;have q:=j.Aj.cell 4;simp only[TM.cells,List.getElem?_toArray,List.getElem?_cons_zero,List.getElem?_cons_succ,t]at q;exact⟨⟨q,j.Aj.frozen 4⟩,j.set 4 _ _ rfl rfl rfl rfl ⟨j.took,C,j.buf⟩⟩
def AK.LP(h:AK w0 N g w x):∃i l j s,x.buf=oG i l j/\oT w ⟨g,7,oN⟩=oM (oG i l j)/\(convert 69 9 (oG i l j)).run Tryz.prog w=.ok (oJ s) w:=by have o:=h.buf;obtain⟨i,l,j,p,-⟩:=id o;have t:=h.Aj.cell 7;simp only[TM.cells,List.getElem?_toArray,List.getElem?_cons_zero,List.getElem?_cons_succ,p]at t;rw[p]at o;obtain⟨s,-,C⟩:=LL (P:=Tryz.prog) underlying69 underlying5 underlying9 o;exact⟨i,l,j,s,p,t,C w (Below.refl _ w)⟩
def lA(h:AK w0 N g w x)(hN:N<=600000)(c:UInt8) :
  Calls Tryz.prog 77 #[oI (oM ⟨g,0,oN⟩),oH .u8 c.toNat] w (Cc w0 (N+6) g):=by
 obtain⟨BA,Bn,Bc,s,i,b0,a0⟩:=h.LP;have bf:=h.Aj.frozen 7;have a1:=h.Aj.lt;have a2:¬g=w.heap.size:=by omega
 have a3:¬w.heap.size=g:=by omega
 have R:=Hd (JB h.buf i h.le nX c);have T:=Hd i;have j:=Hd h;clear h i;generalize hk:Bo c=k at *;have U:∀y,Hid (Calls Tryz.prog 53 #[oH .u8 c.toNat] y fun e w'=>e=oQ (oH .i64 k)/\w'=y):=fun y=>Hd (hk▸I4 c y)
 go_enter func77,ntmps77
 go_wp2_with (first
  | (go_at_call 53;refine(U _).out.mono ?_;rintro e w2 ⟨rfl,hw⟩;cases hw)
  | (
   at_builtin;refine Hu (R.out) (.tmp 18) (.tmp 20) rfl rfl rfl rfl ?_;intro A k3 w3 C I J r4
   obtain⟨⟨k4,k5⟩,t⟩:=j.out.K9 T.out C I J;have l:=Hd (t.ex (M:=N+6) nX);clear C I J r4 t)
  | (
   go_at_call 118;refine(IT j.out nX _ _ _ _ _ _ _ _ _).mono ?_;rintro e w2 ⟨rfl,a4,o⟩
   have P:=Hd o;clear o)
  | (
   go_at_call 120;refine(Vu P.out nX c).mono ?_;rintro e w3 ⟨s2,rfl,y,p⟩
   have l:=Hd (p.ex (M:=N+6) nX);clear p))
 all_goals go_ret
 all_goals exact⟨_,rfl,l.out⟩
def Wx(h:AK w0 N g w x)(hN:N<=600000)(c:UInt8) :
  Calls Tryz.prog 84 #[oI (oM ⟨g,0,oN⟩),oH .u8 c.toNat] w (Cc w0 (N+2) g):=by
 obtain⟨BA,Bn,Bc,s,P,b0,a6⟩:=h.LP;obtain⟨TA,Tn,Tc,a1,-⟩:=id h.took;have bf:=h.Aj.frozen 7;have a7:=h.Aj.lt;have a9:¬g=w.heap.size:=by omega
 have aa:¬w.heap.size=g:=by omega
 have HA:=Hd (JB h.buf P h.le nX c);have a3:=Hd P;have J:=Hd a1;have C:=Hd h;clear h P a1;go_enter func84,ntmps84
 go_wp2_with (first
  | (
   go_at_call 111;refine(Jp C.out).mono ?_;rintro e t ⟨rfl,j⟩
   have I:=Hd (j.ex (M:=N+2) nX);clear j)
  | (
   go_at_call 118;refine(IT C.out nX _ _ _ _ _ _ _ _ _).mono ?_;rintro e w2 ⟨rfl,ab,U⟩
   have H2:=Hd U;clear U)
  | (
   go_at_call 114;refine(Dd H2.out 0 nX).mono ?_;rintro e t ⟨rfl,j⟩
   have I:=Hd (j.ex (Ay _));clear j)
  | (
   at_builtin;refine Hu (HA.out) (.tmp 26) (.tmp 28) rfl rfl rfl rfl ?_;intro A k3 t l o p T
   obtain⟨⟨k4,k5⟩,i⟩:=C.out.K9 a3.out l o p;have t0:=i.Aj.cell 3;have t1:=i.Aj.frozen 3;simp only[TM.cells,List.getElem?_toArray,List.getElem?_cons_zero,List.getElem?_cons_succ,J.out]at t0;have a8:=i.Aj.lt;have a5:(t.setCell ⟨g,7,oN⟩ (oG A (Bn+1) k3)).heap.size=t.heap.size:=by simp[World.setCell]
   have R:=JB i.took J.out i.le nX c;rw[a5]at R;have a2:=Hd R;have a4:=Hd i;clear l o p T i R)
  | (
   at_builtin;refine Hu a2.out (.tmp 36) (.tmp 38) rfl rfl rfl rfl ?_;intro A5 k6 w5 l o p T
   obtain⟨⟨k7,k8⟩,a0⟩:=a4.out.Sr J.out l o p;have I:=Hd (a0.ex (M:=N+2) nX);clear l o p T a0))
 all_goals go_ret
 all_goals exact⟨_,rfl,I.out⟩
end
