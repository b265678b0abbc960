/- . -/
import Derived.Test.YtendpobbjjaopaaGreatDoorXcg
set_option linter.all false
set_option maxRecDepth 100000
set_option maxHeartbeats 16000000
namespace Go.Proofs.YtendpobbjjaopaaGreatDoor
open Go.RowKit Go.Proofs.Tryz
open Value renaming slice→oG,int→oH,pointer→oI,string→oJ,bool→oK
open Option renaming some→oM,none→oN
open IntKind renaming i64→oO
open Obj renaming cells→oP
open Ending renaming returned→oQ
open Go renaming World→oU,Value→oV
section
variable {w0 w:oU} {N g:Nat} {x:TM}
def XR{B:Nat}(w:oU)(j:B<=w.heap.size)(c d:UInt8):Sl B 2 (w.alloc (oP #[oH .u8 c.toNat,oH .u8 d.toNat] 5)) 5 1 (oG (oM ⟨w.heap.size,0,oN⟩) 2 2):=
 ⟨_,_,_,rfl,nX,.inr ⟨_,_,rfl,j,Ah.new w _ _,Ay _,oB,rfl,fun u i _=>by
  simp only[List.mem_cons,List.not_mem_nil,or_false]at i;rcases i with rfl|rfl
  ·exact⟨c,rfl⟩
  ·exact⟨d,rfl⟩⟩⟩
def gX(h:AK w0 N g w x)(hN:N<=600000)(c:UInt8) :
  Calls Tryz.prog 74 #[oI (oM ⟨g,0,oN⟩),oH .u8 c.toNat] w (Cc w0 (N+4) g):=by
 obtain⟨b,cc,I,a5,a6,a7,-⟩:=h.lvl;have HT:=Hd (KJ h I nX);have a2:=Hd I;obtain⟨TA,o,Tc,a1,-⟩:=id h.took;have C:=Hd a1;have P:=Hd h;clear I h a1;generalize hi:Lib.indexByte [36,96,34,92] ((c.toNat:Int)).toNat.toUInt8=ix;have a3:∀y,Hid (Calls Tryz.prog 117 #[oJ ⟨#[36,96,34,92]⟩,oH .u8 c.toNat] y fun e w'=>e=oQ (oH oO ix)/\w'=y):=fun y=>Hd (hi▸MG ⟨#[36,96,34,92]⟩ (c.toNat:Int) y)
 clear hi;go_enter func74,ntmps74
 go_wp2_with (first
  | (
   go_at_call 111;refine(Jp P.out).mono ?_;rintro e j ⟨rfl,l⟩
   have T:=Hd (l.ex (M:=N+4) nX);clear l)
  | (
   go_at_call 110;refine HT.out.mono ?_;rintro e J ⟨rfl,m1,rfl⟩
   have i:=P.out.below (Ki w m1);generalize w.drewN m1=J at *;have d0:=(i.ES a2.out 0 nX).1;simp only[TL.cells,List.getElem?_cons_zero,Nat.add_zero]at d0;have t0:=i.Aj.cell 3;have t1:=i.Aj.frozen 3;simp only[TM.cells,List.getElem?_toArray,List.getElem?_cons_zero,List.getElem?_cons_succ,C.out]at t0;have a8:=i.Aj.lt;have a9:¬g=J.heap.size:=by omega
   have aa:¬J.heap.size=g:=by omega
   have HA:=Hd (JB i.took C.out i.le nX c);have t:=Hd i;clear i)
  | (go_at_call 117;refine(a3 _).out.mono ?_;rintro e w2 ⟨rfl,hw⟩;cases hw)
  | (
   go_at_call 116;refine(ND (t.out.below (AG _ _)) (XR _ t.out.le 92 c) nX nX).mono ?_;rintro e j ⟨rfl,y,l,-⟩
   have R:=Hd (l.mono (M:=N+4) nX);clear l)
  | (
   at_builtin;refine Hu HA.out (.tmp 9) (.tmp 11) rfl rfl rfl rfl ?_;intro A p j r1 r2 r3 r4
   obtain⟨⟨k4,k5⟩,a0⟩:=t.out.Sr C.out r1 r2 r3;have a4:(j.setCell ⟨g,3,oN⟩ (oG A (o+1) p)).heap.size=j.heap.size:=by simp[World.setCell]
   have cv:(convert 69 9 (oG (oM ⟨j.heap.size,0,oN⟩) 1 1)).run Tryz.prog ((j.setCell ⟨g,3,oN⟩ (oG A (o+1) p)).alloc (oP #[oH .u8 c.toNat] 5))=.ok (oJ ⟨#[c]⟩) ((j.setCell ⟨g,3,oN⟩ (oG A (o+1) p)).alloc (oP #[oH .u8 c.toNat] 5)):=by have h5:=KE (j.setCell ⟨g,3,oN⟩ (oG A (o+1) p)) [c];rw[a4]at h5;exact h5
   have H4:=Hd (a0.below (AG _ (oP #[oH .u8 c.toNat] 5)));clear r1 r2 r3 r4 a0)
  | (
   go_at_call 118;refine(IT H4.out nX _ _ _ _ _ _ _ _ _).mono ?_;rintro e w5 ⟨rfl,ab,U⟩
   have R:=Hd (U.mono (M:=N+4) nX);clear U)
  | (
   go_at_call 114;refine(Dd R.out 0 nX).mono ?_;rintro e w6 ⟨rfl,h6⟩
   have T:=Hd (h6.ex (Ay _));clear h6))
 all_goals go_ret
 all_goals exact⟨_,rfl,T.out⟩
def VK(h:AK w0 N g w x)(hN:N<=600000)(a3:2<=N)(c:UInt8) :
  Calls Tryz.prog 75 #[oI (oM ⟨g,0,oN⟩),oH .u8 c.toNat] w (Cc w0 (N+6) g):=by
 have q5:=h.Aj.cell 5;have f5:=h.Aj.frozen 5;have q7:=h.Aj.cell 7;have f7:=h.Aj.frozen 7;simp only[TM.cells,List.getElem?_toArray,List.getElem?_cons_zero,List.getElem?_cons_succ]at q5 q7;have a4:=h.Aj.lt;have a5:¬g=w.heap.size:=by omega
 have a6:¬w.heap.size=g:=by omega
 have p:AK w0 N g (w.setCell ⟨g,5,oN⟩ (oK true)) {x with exp:=true}:=h.set 5 _ _ rfl rfl rfl rfl h.Jl;have t:(w.setCell ⟨g,5,oN⟩ (oK true)).heap.size=w.heap.size:=by simp[World.setCell]
 have I:=p.SU a3 c;rw[t,Rj _ _ (p:=⟨g,7,oN⟩) (by rw[t];exact a4)]at I;have cv:(convert 69 9 (oG (oM ⟨w.heap.size,0,oN⟩) 1 1)).run Tryz.prog ((w.setCell ⟨g,5,oN⟩ (oK true)).alloc (oP #[oH .u8 c.toNat] 5))=.ok (oJ ⟨#[c]⟩) ((w.setCell ⟨g,5,oN⟩ (oK true)).alloc (oP #[oH .u8 c.toNat] 5)):=by have T:=KE (w.setCell ⟨g,5,oN⟩ (oK true)) [c];rw[t]at T;exact T
 have a0:=Hd (fun o=>h.below (AG w o));have HL:=Hd (NB w h.le 36);have P:=Hd p;have a1:=Hd (fun o=>p.below (AG _ o));have a2:=Hd I;clear h p I;generalize hk:Bo c=k at *;have HC:∀y,Hid (Calls Tryz.prog 53 #[oH .u8 c.toNat] y fun e w'=>e=oQ (oH oO k)/\w'=y):=fun y=>Hd (hk▸I4 c y)
 go_enter func75,ntmps75
 go_wp2_with (first
  | (go_at_call 53;refine(HC _).out.mono ?_;rintro e w2 ⟨rfl,C⟩;cases C)
  | (go_at_call 119;refine(Qk c _).mono ?_;rintro e w2 ⟨rfl,C⟩;cases C)
  | (
   go_at_call 114;refine(Dd P.out 5 nX).mono ?_;rintro e J ⟨rfl,i⟩
   have j:=Hd (i.ex (M:=N+6) nX);clear i)
  | (
   go_at_call 114;refine(Dd P.out 3 nX).mono ?_;rintro e J ⟨rfl,i⟩
   have j:=Hd (i.ex (M:=N+6) nX);clear i)
  | (
   go_at_call 114;refine(Dd a2.out 4 nX).mono ?_;rintro e J ⟨rfl,i⟩
   have j:=Hd (i.ex (M:=N+6) nX);clear i)
  | (
   go_at_call 118;refine(IT (a1.out _) nX _ _ _ _ _ _ _ _ _).mono ?_;rintro e w5 ⟨rfl,a7,R⟩
   have U:=Hd R;clear R)
  | (
   go_at_call 114;refine(Dd U.out 0 nX).mono ?_;rintro e w6 ⟨rfl,l⟩
   have j:=Hd (l.ex (M:=N+6) nX);clear l)
  | (
   go_at_call 116;refine(ND (a0.out _) HL.out nX nX).mono ?_;rintro e J ⟨rfl,y,i,-⟩
   have H5:=Hd i;clear i)
  | (
   go_at_call 120;refine(Vu H5.out nX c).mono ?_;rintro e w6 ⟨s2,rfl,y2,l⟩
   have j:=Hd (l.ex (M:=N+6) nX);clear l))
 all_goals go_ret
 all_goals exact⟨_,rfl,j.out⟩
def gP(h:AK w0 N g w x)(hN:N<=600000)(c:UInt8) :
  Calls Tryz.prog 83 #[oI (oM ⟨g,0,oN⟩),oH .u8 c.toNat] w (Cc w0 (N+5) g):=by
 have p:=h.Aj.cell 10;simp only[TM.cells,List.getElem?_toArray,List.getElem?_cons_zero,List.getElem?_cons_succ]at p;have U:(convert 69 9 (oG (oM ⟨w.heap.size,0,oN⟩) 1 1)).run Tryz.prog (w.alloc (oP #[oH .u8 x.cut.toNat] 5))=.ok (oJ ⟨#[x.cut]⟩) (w.alloc (oP #[oH .u8 x.cut.toNat] 5)):=KE w [x.cut];have a0:(convert 69 9 (oG (oM ⟨w.heap.size,0,oN⟩) 2 2)).run Tryz.prog (w.alloc (oP #[oH .u8 c.toNat,oH .u8 c.toNat] 5))=.ok (oJ ⟨#[c,c]⟩) (w.alloc (oP #[oH .u8 c.toNat,oH .u8 c.toNat] 5)):=KE w [c,c];have l:=Hd (fun o=>h.below (AG w o))
 clear h;by_cases C:c.toNat=x.cut.toNat
 ·have I:((c.toNat:Int)==(x.cut.toNat:Int))=true:=by simp;omega
  rw[<-UInt8.toNat_inj.1 C]at p;have a1:((c.toNat:Int)==(c.toNat:Int))=true:=by simp
  clear I C;go_enter func83,ntmps83
  go_wp2_with fail
  refine(MU (l.out _) nX ⟨#[c,c]⟩).mono ?_;rintro e T ⟨rfl,y,i,-⟩;have j:=Hd (i.ex (M:=N+5) nX);clear i;go_wp2;go_ret;exact⟨_,rfl,j.out⟩
 ·have I:((c.toNat:Int)==(x.cut.toNat:Int))=false:=by simp;omega
  go_enter func83,ntmps83
  go_wp2_with fail
  refine(MU (l.out _) nX ⟨#[x.cut]⟩).mono ?_;rintro e T ⟨rfl,y,i,P⟩;have R:=i.Aj.cell 1;simp only[TM.cells,P,Iv,List.getElem?_toArray,List.getElem?_cons_zero,List.getElem?_cons_succ]at R;have J:=Hd i;clear i;go_wp2_with fail
  refine(N5 J.out nX c).mono ?_;rintro e w4 ⟨s2,rfl,t⟩;have j:=Hd t;clear t;go_wp2;go_ret;exact⟨_,rfl,j.out⟩
end
def iR(c:Int)(w:oU):Calls Tryz.prog 87 #[oH .u8 c] w fun e w'=>e=oQ (oH oO 1)/\w'=w:=by
 go_enter func87,ntmps87
 go_wp2;go_ret;exact⟨rfl,rfl⟩
def aB(c:Int)(w:oU):Calls Tryz.prog 88 #[oH .u8 c] w fun e w'=>e=oQ (oH oO 3)/\w'=w:=by
 go_enter func88,ntmps88
 go_wp2;go_ret;exact⟨rfl,rfl⟩
section
variable {w0 w:oU} {N g:Nat} {x:TM}
def Cc.mono{M:Nat}{F:FuncId}{args:Array oV}(j:N<=M)(h:Calls Tryz.prog F args w (Cc w0 N g)):Calls Tryz.prog F args w (Cc w0 M g):=
 h.mono fun _ _ i=>by obtain⟨s,e,y,l⟩:=i;exact⟨s,e,y,l.mono j⟩
def Wm(h:AK w0 N g w x)(l:N<=600000)(i:2<=N)(c:UInt8) :
  ∃F ca,Iv x.kind g=.func (.func F) ca #[]/\(∀(args:Array oV) (y:oU),(callFunc F args).run Tryz.prog y=.ok (.enter F args) y)/\Calls Tryz.prog F (ca.push (oH .u8 c.toNat)) w (Cc w0 (N+6) g):=by
 unfold Iv;split
 ·exact⟨_,_,rfl,(fun _ _=>by kernel_rfl),Cc.mono nX (N5 h nX c)⟩
 ·exact⟨_,_,rfl,(fun _ _=>by kernel_rfl),Cc.mono nX (gX h nX c)⟩
 ·exact⟨_,_,rfl,(fun _ _=>by kernel_rfl),Cc.mono nX (VK h nX i c)⟩
 ·exact⟨_,_,rfl,(fun _ _=>by kernel_rfl),Cc.mono nX (Ys h c)⟩
 ·exact⟨_,_,rfl,(fun _ _=>by kernel_rfl),Cc.mono nX (lA h nX c)⟩
 ·exact⟨_,_,rfl,(fun _ _=>by kernel_rfl),Cc.mono nX (dU h i c)⟩
 ·exact⟨_,_,rfl,(fun _ _=>by kernel_rfl),Cc.mono nX (bZ h nX i c)⟩
 ·exact⟨_,_,rfl,(fun _ _=>by kernel_rfl),Cc.mono nX (UI h nX c)⟩
 ·exact⟨_,_,rfl,(fun _ _=>by kernel_rfl),Cc.mono nX (UI h nX c)⟩
 ·exact⟨_,_,rfl,(fun _ _=>by kernel_rfl),Cc.mono nX (Q9 h nX c)⟩
 ·exact⟨_,_,rfl,(fun _ _=>by kernel_rfl),Cc.mono nX (Zy h nX c)⟩
 ·exact⟨_,_,rfl,(fun _ _=>by kernel_rfl),Cc.mono nX (gP h nX c)⟩
 ·exact⟨_,_,rfl,(fun _ _=>by kernel_rfl),Cc.mono nX (Wx h nX c)⟩
 ·exact⟨_,_,rfl,(fun _ _=>by kernel_rfl),Cc.mono nX (XW h nX c)⟩
 ·exact⟨_,_,rfl,(fun _ _=>by kernel_rfl),Cc.mono nX (jH h nX c)⟩
 ·refine⟨_,_,rfl,(fun _ _=>by kernel_rfl),(iR _ w).mono ?_⟩
  rintro e j ⟨rfl,rfl⟩;exact⟨_,rfl,x,h.mono nX⟩
 ·refine⟨_,_,rfl,(fun _ _=>by kernel_rfl),(aB _ w).mono ?_⟩
  rintro e j ⟨rfl,rfl⟩;exact⟨_,rfl,x,h.mono nX⟩
def eH(h:AK w0 N g w x)(hN:N<=600000)(h2:2<=N)(c:UInt8) :
  Calls Tryz.prog 22 #[oI (oM ⟨g,0,oN⟩),oH .u8 c.toNat] w (Cc w0 (N+7) g):=by
 obtain⟨F,ca,C,I,t⟩:=Wm h hN h2 c;have n1:=h.Aj.cell 1;simp only[TM.cells,List.getElem?_toArray,List.getElem?_cons_zero,List.getElem?_cons_succ,C]at n1;have a5:=I (ca.push (oH .u8 c.toNat));have HC:=Hd t;clear h C I t;go_enter func22,ntmps22
 go_wp2_with fail
 refine HC.out.mono ?_;rintro e T ⟨s,rfl,y,i⟩;obtain⟨PA,Pn,Pc,j,-⟩:=id i.plain;have p4:=i.Aj.cell 4;simp only[TM.cells,List.getElem?_toArray,List.getElem?_cons_zero,List.getElem?_cons_succ,j]at p4;have a1:=i.Aj.lt;have a2:¬g=T.heap.size:=by omega
 have a3:¬T.heap.size=g:=by omega
 have U:=Hd (JB i.plain j i.le nX c);have a0:=Hd j;have o:=Hd i;clear i j;by_cases h0:s=0
 ·subst h0
  go_wp2_with
   (
    at_builtin;refine Hu U.out (.tmp 20) (.tmp 22) rfl rfl rfl rfl ?_;intro A k3 w3 J P R r4
    obtain⟨⟨k4,k5⟩,p⟩:=o.out.mZ a0.out J P R;have l:=Hd (p.ex (M:=N+7) nX);clear J P R r4 p)
  go_ret;exact⟨_,rfl,l.out⟩
 ·have a4:(s==0)=false:=by simpa using h0
  have l:=Hd (o.out.ex (M:=N+7) nX);go_wp2;go_ret;exact⟨_,rfl,l.out⟩
end
def Ju(b:Nat):TM:=⟨oG (oM ⟨b,0,oN⟩) 1 1,0,oG oN 0 0,oG oN 0 0,false,false,oG oN 0 0,0,false,0,[],⟨0,oG oN 0 0,oG oN 0 0,⟨#[]⟩,⟨#[]⟩⟩⟩
def Kv(w:oU)(i:oV):oU:=(w.alloc (oP #[oH oO 0,oG oN 0 0,oG oN 0 0,oJ ⟨#[]⟩,oJ ⟨#[]⟩] 188)).alloc (oP (((Ju w.heap.size).cells 0).setIfInBounds 1 i) 71)
def gW(w:oU)(i:oV):AK w 2 (w.heap.size+1) (((Kv w i).setCell ⟨w.heap.size+1,2,oN⟩ (oH oO (0:Nat))).setCell ⟨w.heap.size+1,1,oN⟩ (Iv 0 (w.heap.size+1))) (Ju w.heap.size):=by
 have I:=(Ah.new w 188 #[oH oO 0,oG oN 0 0,oG oN 0 0,oJ ⟨#[]⟩,oJ ⟨#[]⟩]).alloc (oP (((Ju w.heap.size).cells 0).setIfInBounds 1 i) 71);have J:Ah (Kv w i) (w.heap.size+1) 71 (((Ju w.heap.size).cells 0).setIfInBounds 1 i):=Pb w _ _ _;have p:=IV (Kv w i) (w.heap.size+1) 2 (oH oO (0:Nat));have t:=IV ((Kv w i).setCell ⟨w.heap.size+1,2,oN⟩ (oH oO (0:Nat))) (w.heap.size+1) 1 (Iv 0 (w.heap.size+1));have j:Below w.heap.size w (Kv w i):=((Below.refl _ w).alloc (Ay _) _).alloc oA _;have o:=JT j j.size p (fun b e=>by cases e;omega)
 refine⟨(J.Ba 2 _).Ba 1 _,nX,JT o o.size t (fun b e=>by cases e;omega),?_,AX _,Sl.nil,Sl.nil,Sl.nil,fun l C=>?_,rfl⟩
 ·have P:(Kv w i).ownsRow w.heap.size 188 5 (oG (oM ⟨w.heap.size,0,oN⟩) 1 1) 1 [oH oO 0,oG oN 0 0,oG oN 0 0,oJ ⟨#[]⟩,oJ ⟨#[]⟩]:=
   ⟨rfl,.inr ⟨w.heap.size,1,_,rfl,Ay _,I,Ay _,nY,rfl,rfl⟩⟩
  exact(P.kept p (.inr (by simp[Value.ownBlock]))).kept t (.inr (by simp[Value.ownBlock]))
 ·simp only[TM.levels,Ju,List.nil_append,mS]at C
  subst C;exact⟨Sl.nil,Sl.nil⟩
def iJ(w:oU):Calls Tryz.prog 21 #[] w fun e w'=>e=oQ (oI (oM ⟨w.heap.size+1,0,oN⟩))/\AK w 2 (w.heap.size+1) w' (Ju w.heap.size):=by
 have t:∀y:oU,(Instr.makeSlice 68 (oH oO 1) (oH oO 1)).run Tryz.prog y=.ok (oG (oM ⟨y.heap.size,0,oN⟩) 1 1) (y.alloc (oP #[oH oO 0,oG oN 0 0,oG oN 0 0,oJ ⟨#[]⟩,oJ ⟨#[]⟩] 188)):=fun _=>by kernel_rfl
 have i:=Hd (fun p=>(Pb w (oP #[oH oO 0,oG oN 0 0,oG oN 0 0,oJ ⟨#[]⟩,oJ ⟨#[]⟩] 188) 71 (((Ju w.heap.size).cells 0).setIfInBounds 1 p)));have o:=Hd (gW w);go_enter func21,ntmps21
 go_wp2_with fail
 refine(QR (g:=w.heap.size+1) ⟨_,(i.out _).cell 1⟩ ⟨_,(i.out _).cell 2⟩ ((i.out _).frozen 1) ((i.out _).frozen 2) 0 nX).mono ?_;rintro e w' ⟨rfl,j⟩;have l:Hid (AK w 2 (w.heap.size+1) w' (Ju w.heap.size)):=Hd (by rw[j];exact o.out .nilFunc);clear j;go_wp2;go_ret;exact⟨rfl,l.out⟩
def gF(s:ByteArray)(hs:s.size<=2000)(w:oU) :
  Calls Tryz.prog 7 #[oJ s] w fun e w'=>∃a b:Int,e=oQ (.tuple #[oI (oM ⟨w.heap.size+1,0,oN⟩),oH oO a,oH oO b])/\∃N x,N<=600000/\AK w N (w.heap.size+1) w' x:=by
 have C:=Hd (iJ w);go_enter func7,ntmps7
 go_wp2_with fail
 refine C.out.mono ?_;rintro e R ⟨rfl,j⟩;have o:Hid (∃x,AK w (2+7*0) (w.heap.size+1) R x):=Hd ⟨_,j⟩;clear j C;generalize I:w.heap.size+1=g at *;have t:=Hd I;clear I;go_wp2;go_loopw [6,7] (fun i _ wr=>∃k:Nat,k<=s.size/\i=oH oO k/\∃x,AK w (2+7*k) g wr x) (fun i _ _=>s.size-(intOf i).toNat)
 case atStart=>exact⟨0,AX _,rfl,o.out⟩
 case round=>
  obtain⟨k,U,rfl,x,j⟩:=hrel;by_cases a0:k<s.size
  ·have J:=Hd (eH j nX nX s[k])
   clear j o;go_wp2_with fail
   refine J.out.mono ?_;rintro e T ⟨a,rfl,y,l⟩;by_cases h0:a=0
   ·subst h0
    have p:Hid (∃x,AK w (2+7*(k+1)) g T x):=Hd ⟨y,l.mono nX⟩;clear l;go_wp2;go_roundw
    case rel=>exact⟨k+1,nX,oD,p.out⟩
    case measure=>simp[intOf];omega
   ·have a1:(a != 0)=true:=by simpa using h0
    have p:=Hd l;clear l;go_wp2
    go_ret3
    rw[t.out];exact⟨_,_,rfl,2+7*k+7,_,nX,p.out⟩
  ·obtain rfl:k=s.size:=by omega
   have P:=Hd j;clear j o;go_wp2
   go_ret3
   rw[t.out];exact⟨_,_,rfl,2+7*s.size,_,nX,P.out⟩
section
variable {w0 w:oU} {N g:Nat} {x:TM}
def YH(h:AK w0 N g w x):∃t p,t.size<=N/\∀y,Below w.heap.size w y->Calls Tryz.prog 10 #[oI (oM ⟨g,0,oN⟩)] y fun e w'=>e=oQ (.tuple #[oJ t,oK p])/\w'=y:=by
 obtain⟨T,Pn,U,C,P,-⟩:=id h.plain;have l:=h.plain;rw[C]at l;obtain⟨s,R,I⟩:=LL (P:=Tryz.prog) underlying69 underlying5 underlying9 l;have o:=Hd (fun y i=>h.Aj.below (w':=y) i h.Aj.lt);refine⟨if x.quoted||x.exp then⟨#[]⟩ else s,!(x.quoted||x.exp),?_,fun y i=>?_⟩
 ·split
  ·exact AX _
  ·omega
 have j:=o.out y i;have c4:=j.cell 4;have c5:=j.cell 5;have J:=j.cell 6;simp only[TM.cells,List.getElem?_toArray,List.getElem?_cons_zero,List.getElem?_cons_succ,C]at c4 c5 J;have cv:=I y i;clear h l j o i I R P;generalize x.quoted=q at *;generalize x.exp=ex at *;cases q
 all_goals cases ex
 all_goals go_enter func10,ntmps10
 all_goals go_wp2
 all_goals go_ret2
 all_goals exact⟨rfl,rfl⟩
end
