/- RuleNone. -/
import Derived.Test.YtlogpnoioimhjaaGreatDoorXcf
set_option linter.all false
set_option maxRecDepth 100000
set_option maxHeartbeats 16000000
namespace Go.Proofs.YtlogpnoioimhjaaGreatDoor
open Go.RowKit
variable{listed:Array Bool}{l:List Value}{w:World}
section
variable {P:Program} {md:Region.Mode} {ops:Array Oper} {Q:Exit->Act->World->Prop} {S:World->Prop} {z:Nat}
def Jb(i:Nat){o:Oper}{f d:Nat}{p:List Deferred}(C:Region.ready md ops listed=[i])(U:ops[i]?=some o)(T:Region.wanted o (yielded ops l.toArray)=true)(R:o.dst=some d)
  (h:∀K:Act->World->Prop,Shut (∀v w,(i≠z->S w)->Eo P md ops Q S z f (listed.setIfInBounds i true) {tmps:=(l.set d v).toArray,defers:=p} w->K (({tmps:=l.toArray,defers:=p}:Act).put o.dst v) w)->o.wp P {tmps:=l.toArray,defers:=p} w K Q):Eo P md ops Q S z (f+1) listed {tmps:=l.toArray,defers:=p} w:=by
 refine⟨fun h0=>(by rw[C]at h0;cases h0),fun j t=>?_⟩;rw[C,mS]at t;subst t;unfold wpOp;rw[U];simp only;rw[if_pos T];refine .inl ((h (fun a w=>(j≠z->S w)/\Eo P md ops Q S z f (listed.setIfInBounds j true) a w) fun v w I J=>⟨I,?_⟩));rw[R];simpa [Act.put] using J
def JW(i:Nat){j:Oper}{d f:Nat}{o:List Deferred}(t:S w)(h:Eo P md ops Q S z f (listed.setIfInBounds i true) {tmps:=(l.set d undef).toArray,defers:=o} w)
  (J:ops[i]?=some j:=by rfl) (T:Region.noSelect ops=true:=by kernel_rfl) (I:Region.free md ops listed i=true:=by kernel_rfl) (R:(Region.ready md ops listed).contains i=true:=by kernel_rfl) (hz:Region.waitsFor md ops z i=true:=by kernel_rfl)
  (p:∀c a w,Q (.panic c) (a.put j.dst undef) w->Q (.panic c) a w:=by exact fun _ _ _ h=>h) (U:YieldsIf P ops S j undef {tmps:=l.toArray,defers:=o}:=by exact Or.inr ⟨by rfl,rfl⟩) (C:j.dst=some d:=by rfl):Eo P md ops Q S z (f+1) listed {tmps:=l.toArray,defers:=o} w:=
 J8 i J T I R hz p U t C h
end
def Xf(i:Value)(w:World):Calls Tryz.prog 10 #[i,.pointer none] w fun e w'=>e=.returned (.bool false)/\w=w':=by
 go_enter Tryz.func10,Tryz.ntmps10
 go_wp2_with fail
 go_ret;exact⟨rfl,rfl⟩
def ZH(K:Int)(n:Nat)(k:Int)(s:ByteArray):IC (fun _=>false) K n k s true=false:=by unfold IC;rw[show Fu (fun _=>false)=0 from rfl];simp
def Wy(s:ByteArray):K0 (fun _=>false) s=false:=by unfold K0;simp
def jM(hm:Gy w)(hT:Ei w){A:Option Addr}{n c:Nat}(hp:G6 w (.slice A n c))(h1:n<=c)(h2:c<=maxLen)(K op:Int)(N s:ByteArray) :
  Calls Tryz.prog 3 #[EM K op A n c N,.string s] w (fun e w'=>e=.returned (.bool true)/\Below w.heap.size w w'):=by
 obtain⟨h0,hx⟩:=Kn w #[.int .i64 K,.int .i64 op,.slice A n c,.string N];have HX:Hid (∀y,Below (w.alloc (.cells #[.int .i64 K,.int .i64 op,.slice A n c,.string N] 26)).heap.size (w.alloc (.cells #[.int .i64 K,.int .i64 op,.slice A n c,.string N] 26)) y->y.cell? ⟨w.heap.size,0,none⟩=some (.int .i64 K)/\y.cell? ⟨w.heap.size,1,none⟩=some (.int .i64 op)/\y.cell? ⟨w.heap.size,2,none⟩=some (.slice A n c)/\y.cell? ⟨w.heap.size,3,none⟩=some (.string N)/\w.heap.size<y.heap.size):=Hd fun y p=>by have h:=(hx y p).2;exact⟨h.cell 0,h.cell 1,h.cell 2,h.cell 3,h.lt⟩
 have HE:=Hd fun y p=>(hx y p).1
 obtain⟨KM,ae,af⟩:=To hp;have a2:=Hd fun y p=>(af y (hx y p).1).mono fun e w' (h:_/\∃d,w'=y.drewN d)=>(⟨h.1,by obtain⟨d,rfl⟩:=h.2;exact MI (Below.refl _ _) d⟩:e=.returned (.int .i64 KM)/\Below y.heap.size y w')
 have a7:=Hd (UL (hm.later h0));have I:=Hd fun y p=>hT.later (hx y p).1
 have a3:Hid (KM<=200->∃k a4,EX w A n c k a4):=Hd fun h=>hp.word h1 h2 (by have:=ae A n c rfl;omega)
 have t:=Hd (Below.refl (w.alloc (.cells #[.int .i64 K,.int .i64 op,.slice A n c,.string N] 26)).heap.size (w.alloc (.cells #[.int .i64 K,.int .i64 op,.slice A n c,.string N] 26)));clear hm hT hp h1 h2 h0 hx ae af;unfold EM;go_enter Tryz.func3,Tryz.ntmps3
 go_upto_region 4 with(first
  | (go_at_call 5;refine a7.out.mono ?_;rintro e w1 ⟨tb,rfl,ht,l⟩;replace t:=Hd l;have a6:=Hd (Rm (I.out _ l) ht);have T:=Hd ht;clear ht l a7)
  | (go_at_call 6;refine a6.out.mono ?_;rintro e w2 ⟨rfl,l⟩;replace T:=Hd (T.out.later l);replace t:=Hd (t.out.trans (l.mono t.out.size));obtain⟨d0,d1,d2,d3,dl⟩:=HX.out _ t.out;clear l a6))
 by_cases hk:200<KM
 ·clear a3 T I
  go_wp2_with (go_at_call 7;refine(a2.out _ t.out).mono ?_;rintro e w3 ⟨rfl,l⟩;replace t:=Hd (t.out.trans (l.mono t.out.size));clear l)
  go_ret;exact⟨rfl,HE.out _ t.out⟩
 by_cases hs:200<s.size
 ·have ai:(200:Int)<(s.size:Int):=by omega
  clear a3 T I;go_wp2_with (go_at_call 7;refine(a2.out _ t.out).mono ?_;rintro e w3 ⟨rfl,l⟩;replace t:=Hd (t.out.trans (l.mono t.out.size));clear l)
  go_ret;exact⟨rfl,HE.out _ t.out⟩
 have ai:¬(200:Int)<(s.size:Int):=by omega
 obtain⟨k,a4,hw⟩:=a3.out (by omega);have HW:=Hd hw;have a0:=Hd fun y p=>Pm (I.out y p) (Mm y) (HW.out.later (HE.out y p)) K op N true
 have aa:=Hd fun y p=>LH (I.out y p) (Mm y)
 have ad:=Hd fun y p=>OX (I.out y p) (Mm y) (HW.out.later (HE.out y p)) K op N
 have a9:=Hd fun y p=>Oh (I.out y p) (Mm y) s
 have a8:=Hd fun ev y=>Xf ev y
 have ah:=Hd fun y=>SR op y
 have ab:Hid (∀y,Calls Tryz.prog 15 #[.int .i64 0] y fun e w'=>e=.returned (.string ⟨#[]⟩)/\y=w'):=Hd fun y=>RC 0 y
 have ag:=Hd fun y (p:Below w2.heap.size w2 y)=>Pu (T.out.later p) (Po (T.out.later p))
 simp only[ZH]at a0;rw[show Fu (fun _=>false)=0 from rfl]at aa;simp only[Wy]at a9;unfold Ka EM at a0;unfold EM at ad;have U:=Hd (Below.refl w2.heap.size w2);clear hw hs HW a3 T I;have h3:((K != 3)=false/\(K==3)=true/\K=3)\/((K != 3)=true/\(K==3)=false):=by simp;omega
 have a5:K=3->Ir (fun _=>false) K op n k a4=FJ op:=fun h=>by subst h;rfl
 generalize Ir (fun _=>false) K op n k a4=u at *;generalize FJ op=q at *;go_upto_region 9 with(first
  | (go_at_call 7;refine(a2.out _ t.out).mono ?_;rintro e w3 ⟨rfl,l⟩;replace t:=Hd (t.out.trans (l.mono t.out.size));replace U:=Hd l;obtain⟨d0,d1,d2,d3,dl⟩:=HX.out _ t.out;clear l)
  | (go_at_call 8;refine(a0.out _ t.out).mono ?_;rintro e J ⟨rfl,l⟩;have a1:=Hd (t.out.trans (l.mono t.out.size));replace U:=Hd (U.out.trans (l.mono U.out.size));clear l))
 have C:Hid (∀y,Below J.heap.size J y->(fun y:World=>y.cell? ⟨w.heap.size,0,none⟩=some (.int .i64 K)/\y.cell? ⟨w.heap.size,1,none⟩=some (.int .i64 op)/\y.cell? ⟨w.heap.size,2,none⟩=some (.slice A n c)/\y.cell? ⟨w.heap.size,3,none⟩=some (.string N)/\w.heap.size<y.heap.size) y):=Hd fun y p=>HX.out y (a1.out.trans (p.mono a1.out.size))
 have HF:=Hd fun y (p:Below J.heap.size J y)=>a1.out.trans (p.mono a1.out.size)
 have HG:=Hd fun y (p:Below J.heap.size J y)=>U.out.trans (p.mono U.out.size)
 have j:=Hd (Below.refl J.heap.size J).drew;clear d0 d1 d2 d3 dl HX a2 a0;refine DU 44 (fun y:World=>y.cell? ⟨w.heap.size,0,none⟩=some (.int .i64 K)/\y.cell? ⟨w.heap.size,1,none⟩=some (.int .i64 op)/\y.cell? ⟨w.heap.size,2,none⟩=some (.slice A n c)/\y.cell? ⟨w.heap.size,3,none⟩=some (.string N)/\w.heap.size<y.heap.size) (by kernel_rfl) ?_;have i:=C.out _ j.out;refine AA 0 i ?_;simp only[Aw,Ay];refine FX 1 (by kernel_rfl) rfl rfl rfl (fun K o=>?_);go_simp;refine(aa.out _ (HF.out _ j.out)).mono ?_;rintro e R ⟨rfl,l⟩;replace j:=Hd (j.out.trans (l.mono j.out.size));clear l
 refine o.out _ _ (fun _=>C.out _ j.out) ?_;replace i:=C.out _ j.out;clear o K;simp only[Aw,Ay];refine AA 2 i ?_;simp only[Aw,Ay];refine AA 3 i ?_;simp only[Aw,Ay];refine AA 4 i ?_;simp only[Aw,Ay];refine AA 5 i ?_;simp only[Aw,Ay];refine AA 6 i ?_;simp only[Aw,Ay];refine AA 7 i ?_;simp only[Aw,Ay];refine AA 8 i ?_;simp only[Aw,Ay];refine AA 9 i ?_;simp only[Aw,Ay];refine Jb 10 (by kernel_rfl) rfl (by rfl) rfl (fun K o=>?_);go_simp;refine(a8.out _ _).mono ?_;rintro e R ⟨rfl,rfl⟩;refine o.out _ _ (fun _=>C.out _ j.out) ?_
 replace i:=C.out _ j.out;clear o K;simp only[Aw,Ay];refine AA 11 i ?_;simp only[Aw,Ay];refine AA 12 i ?_;simp only[Aw,Ay];refine AA 13 i ?_;simp only[Aw,Ay];refine AA 14 i ?_;simp only[Aw,Ay];refine AA 16 i ?_;simp only[Aw,Ay];refine Jb 15 (by kernel_rfl) rfl (by rfl) rfl (fun K o=>?_);go_simp;refine(ag.out _ (HG.out _ j.out)).mono ?_;rintro e R ⟨eb,rb,sv,rfl,-,l⟩;replace j:=Hd (j.out.trans (l.mono j.out.size));clear l;refine o.out _ _ (fun _=>C.out _ j.out) ?_;replace i:=C.out _ j.out;clear o K;simp only[Aw,Ay]
 refine Jb 17 (by kernel_rfl) rfl (by rfl) rfl (fun K o=>?_);go_simp;refine(a8.out _ _).mono ?_;rintro e R ⟨rfl,rfl⟩;refine o.out _ _ (fun _=>C.out _ j.out) ?_;replace i:=C.out _ j.out;clear o K;simp only[Aw,Ay];refine AA 18 i ?_;simp only[Aw,Ay];refine AA 19 i ?_;simp only[Aw,Ay];refine AA 20 i ?_;simp only[Aw,Ay];refine AA 21 i ?_;simp only[Aw,Ay];refine AA 22 i ?_;simp only[Aw,Ay];refine Jb 23 (by kernel_rfl) rfl (by rfl) rfl (fun K o=>?_);go_simp;refine(a9.out _ (HF.out _ j.out)).mono ?_;rintro e R ⟨rfl,l⟩;replace j:=Hd (j.out.trans (l.mono j.out.size));clear l
 refine o.out _ _ (fun _=>C.out _ j.out) ?_;replace i:=C.out _ j.out;clear o K;simp only[Aw,Ay];refine AA 24 i ?_;simp only[Aw,Ay];refine AA 25 i ?_;simp only[Aw,Ay];refine AA 26 i ?_;simp only[Aw,Ay];refine AA 27 i ?_;simp only[Aw,Ay];refine AA 28 i ?_;simp only[Aw,Ay];rcases h3 with⟨h3,h5,h4⟩|⟨h3,h5⟩
 ·obtain rfl:=a5 h4
  clear a5 h4;refine AA 29 i ?_;simp only[Aw,Ay];refine AA 30 i ?_;simp only[Aw,Ay];refine AA 31 i ?_;simp only[Aw,Ay];refine AA 32 i ?_;simp only[Aw,Ay];refine AA 34 i ?_;simp only[Aw,Ay];refine AA 35 i ?_;simp only[Aw,Ay];refine Jb 33 (by kernel_rfl) rfl (by rfl) rfl (fun K o=>?_);go_simp;refine(ad.out _ (HF.out _ j.out)).mono ?_;rintro e R ⟨rfl,l⟩;replace j:=Hd (j.out.trans (l.mono j.out.size));clear l;refine o.out _ _ (fun _=>C.out _ j.out) ?_;replace i:=C.out _ j.out;clear o K;simp only[Aw,Ay]
  refine Jb 36 (by kernel_rfl) rfl (by rfl) rfl (fun K o=>?_);go_simp;refine(ah.out _).mono ?_;rintro e R ⟨rfl,rfl⟩;refine o.out _ _ (fun _=>C.out _ j.out) ?_;replace i:=C.out _ j.out;clear o K;simp only[Aw,Ay];refine AA 37 i ?_;simp only[Aw,Ay];refine AA 38 i ?_;simp only[Aw,Ay];refine AA 39 i ?_;simp only[Aw,Ay];refine AA 40 i ?_;simp only[Aw,Ay];refine Jb 41 (by kernel_rfl) rfl (by rfl) rfl (fun K o=>?_);go_simp;refine(ab.out _).mono ?_;rintro e R ⟨rfl,rfl⟩;refine o.out _ _ (fun _=>C.out _ j.out) ?_;replace i:=C.out _ j.out
  clear o K;simp only[Aw,Ay];refine AA 42 i ?_;simp only[Aw,Ay];refine AA 43 i ?_;simp only[Aw,Ay];refine FX 44 (by kernel_rfl) rfl rfl rfl (fun K o=>?_);go_simp;refine o.out _ _ (fun h=>absurd rfl h) ?_;clear o K;simp only[Aw,Ay];refine Dy (by kernel_rfl) ?_ _;go_wp2;go_ret;exact⟨rfl,HE.out _ (HF.out _ j.out)⟩
 ·clear a5
  refine AA 29 i ?_;simp only[Aw,Ay];refine AA 30 i ?_;simp only[Aw,Ay];refine JW 31 i ?_;simp only[Aw,Ay];refine JW 32 i ?_;simp only[Aw,Ay];refine JW 33 i ?_;simp only[Aw,Ay];refine JW 34 i ?_;simp only[Aw,Ay];refine JW 35 i ?_;simp only[Aw,Ay];refine JW 36 i ?_;simp only[Aw,Ay];refine JW 37 i ?_;simp only[Aw,Ay];refine AA 38 i ?_;simp only[Aw,Ay];refine AA 39 i ?_;simp only[Aw,Ay];refine AA 40 i ?_;simp only[Aw,Ay];refine Jb 41 (by kernel_rfl) rfl (by rfl) rfl (fun K o=>?_)
  go_simp;refine(ab.out _).mono ?_;rintro e R ⟨rfl,rfl⟩;refine o.out _ _ (fun _=>C.out _ j.out) ?_;replace i:=C.out _ j.out;clear o K;simp only[Aw,Ay];refine AA 42 i ?_;simp only[Aw,Ay];refine AA 43 i ?_;simp only[Aw,Ay];refine FX 44 (by kernel_rfl) rfl rfl rfl (fun K o=>?_);go_simp;refine o.out _ _ (fun h=>absurd rfl h) ?_;clear o K;simp only[Aw,Ay];refine Dy (by kernel_rfl) ?_ _;go_wp2;go_ret;exact⟨rfl,HE.out _ (HF.out _ j.out)⟩
end Go.Proofs.YtlogpnoioimhjaaGreatDoor
