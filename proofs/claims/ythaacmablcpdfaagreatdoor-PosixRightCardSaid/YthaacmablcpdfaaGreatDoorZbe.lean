/- A region whose order is drawn and whose last ope. A region that draws its order. A range over a function. A region whose order is drawn and whose last ope. The POSIX grammar's text. The reader. The reader. Operators and reserved words. Operators. Operators' terminals and reserved words. Reserved words. How a terminal is written. The tables. The frame of a law's proof. -/
import Derived.Test.YthaacmablcpdfaaGreatDoorZaa
import Derived.Deep.RegionHeld3
import Derived.StillTail
import Derived.Deep.Quiet
import Derived.Deep.QuietTactic
import Derived.BigQuiet
import Derived.WalkKit
import Derived.Test.YthaacmablcpdfaaGreatDoorZad
import Derived.RangeFuncNested
import Derived.RangeFuncBound
import Derived.RangeFuncCalls
import Derived.RangeFuncLeaves
import Derived.Test.YthaacmablcpdfaaGreatDoorZaf
import Derived.Test.YthaacmablcpdfaaGreatDoorZap
import Derived.Test.YthaacmablcpdfaaGreatDoorRows
import Derived.Below
import Derived.Lib.Hide
import Derived.Lib.Strings
import Derived.Lib.LaidU8
import Derived.Lay
import Derived.ChangeArms
import Derived.Shelf.Vars
import Derived.ProofKit
import Derived.OpenShut
import Derived.ShutString
import Derived.Carry
import Derived.ChangeSame
import Derived.Test.YthaacmablcpdfaaGreatDoorNm
namespace Go.Proofs.YthaacmablcpdfaaGreatDoor
open Go.RowKit
set_option linter.unusedVariables false
set_option maxRecDepth 100000
theorem own_shape2{w:World}{B:Nat}{e:TypeId}{size n:Nat}{v:Value}{xs:List Value}(h:w.ownsRow B e size v n xs):∃A c,v=.slice A n c:=by
 rcases own_form h with⟨rfl,rfl⟩|⟨b,c,rfl,_⟩
 ·exact⟨none,0,rfl⟩
 ·exact⟨_,c,rfl⟩
section
variable {P:Program} {ops:Array Oper} {Q:Exit→Act→World→Prop} {md:Region.Mode} {S:World→Prop} {z:Nat}
def anyK(P:Program)(md:Region.Mode)(ops:Array Oper)(Q:Exit→Act→World→Prop)(S:World→Prop)(z:Nat):Nat→Array Bool→Act→World→Prop
 | 0,listed,a,w=>Region.ready md ops listed=[]∧Q .normal a w
 | f+1,listed,a,w=>(Region.ready md ops listed=[]→Q .normal a w)∧∀i∈Region.ready md ops listed,wpOp P ops Q i (fun a' w'=>(i≠z→S w')∧anyK P md ops Q S z f (listed.setIfInBounds i true) a' w') a w
theorem any_of_K:∀(f:Nat) (listed:Array Bool) (a:Act) (w:World),anyK P md ops Q S z f listed a w→wpAny P md ops Q f listed a w
 | 0,_,_,_,h=>h
 | f+1,_,_,_,h=>⟨h.1,fun i hi=>wpOp_mono (fun a' w' h'=>any_of_K f _ a' w' h'.2) (h.2 i hi)⟩
theorem wp_regionK{id:Nat}{a:Act}{w:World}(z:Nat)(S:World→Prop)(hm:P.follows .mixedOrders=true)(h:anyK P .any ops Q S z ops.size (Array.replicate ops.size false) a w.drew):(Code.region id ops true).wp P Q a w:=
 wp_region_any hm (any_of_K _ _ _ _ h)
theorem firstK{i:Nat}{oi:Oper}{v:Value}(hi:ops[i]?=some oi)(hsel:∀(j:Nat) (o:Oper) cs b,ops[j]?=some o→o.op ≠ .select cs b)(hQ:∀c a w,Q (.panic c) (a.put oi.dst v) w→Q (.panic c) a w)(hz:Region.waitsFor md ops z i=true) :
  ∀(f:Nat) (listed:Array Bool) (a:Act) (w:World),(∀j oj,ops[j]?=some oj→j≠i→listed.getD j true=false→(∀e∈oj.after,Region.binds md e=true→e.on≠i)→oi.apart ops oj=true) →
   i∈Region.ready md ops listed→YieldsIf P ops S oi v a→S w→anyK P md ops Q S z f (listed.setIfInBounds i true) (a.put oi.dst v) w→anyK P md ops Q S z (f+1) listed a w:=by
 obtain⟨oz,hoz,ez,hez,hbz,honz⟩:=Region.waitsFor_spec hz;have hun:∀(listed:Array Bool) (j:Nat) (oj:Oper),i∈Region.ready md ops listed→ops[j]?=some oj→j∈Region.ready md ops listed→∀e∈oj.after,Region.binds md e=true→e.on≠i:=fun listed j oj hr hoj hj e he hb heq=>by
  obtain⟨_,oj',hoj',hall⟩:=mem_ready.1 hj;rw[hoj]at hoj';cases hoj'
  have h1:=hall e he hb;rw[heq,getD_both (mem_ready.1 hr).1]at h1;cases h1
 intro f;induction f with
 | zero=>
  intro listed a w _ hr hy hS H;refine⟨fun h=>(by rw[h]at hr;cases hr),fun j hj=>?_⟩;by_cases hji:j=i
  ·subst hji;exact hy.wpOp hi hS ⟨fun _=>hS,H⟩
  ·have h2:=ready_mono hj hji
   rw[H.1]at h2;cases h2
 | succ f ih=>
  intro listed a w hfree hr hy hS H;refine⟨fun h=>(by rw[h]at hr;cases hr),fun j hj=>?_⟩;by_cases hji:j=i
  ·subst hji;exact hy.wpOp hi hS ⟨fun _=>hS,H⟩
  ·have h1:=H.2 j (ready_mono hj hji)
   obtain⟨hjun,oj,hoj,_⟩:=mem_ready.1 hj;have hnot:=hun listed j oj hr hoj hj;have hjz:j≠z:=fun e=>by
    subst e;rw[hoj]at hoz;cases hoz
    exact hnot ez hez hbz honz
   have h2:=wpOp_putIf hoj (hfree j oj hoj hji hjun hnot) (fun cs b=>hsel i oi cs b hi) (fun cs b=>hsel j oj cs b hoj) hQ hy h1;refine wpOp_mono (fun a' w' h3=>⟨h3.2.1,ih (listed.setIfInBounds j true) a' w' (fun k ok hk hki hku hkn=>hfree k ok hk hki ?_ hkn) (ready_mono hr (Ne.symm hji)) h3.1 (h3.2.1 hjz) ?_⟩) h2
   ·by_cases hjk:j=k
    ·subst hjk;exact hjun
    ·rw[getD_set_ne true hjk]at hku;exact hku
   ·rw[Array.setIfInBounds_comm _ _ hji]
    exact h3.2.2
theorem takeK(i:Nat){oi:Oper}{v:Value}{d f:Nat}{listed:Array Bool}{l:List Value}{ds:List Deferred}{w:World}(hi:ops[i]?=some oi)(hs:Region.noSelect ops=true)(hf:Region.free md ops listed i=true)(hr:(Region.ready md ops listed).contains i=true)(hz:Region.waitsFor md ops z i=true)
  (hQ:∀c a w,Q (.panic c) (a.put oi.dst v) w→Q (.panic c) a w) (hy:YieldsIf P ops S oi v {tmps:=l.toArray,defers:=ds}) (hS:S w) (hd:oi.dst=some d)
  (h:anyK P md ops Q S z f (listed.setIfInBounds i true) {tmps:=(l.set d v).toArray,defers:=ds} w):anyK P md ops Q S z (f+1) listed {tmps:=l.toArray,defers:=ds} w:=by
 refine firstK hi (Region.noSelect_spec hs) hQ hz f listed _ w (Region.free_spec hi hf) (by simpa using hr) hy hS ?_;rw[hd];simpa [Act.put] using h
theorem takeQ(i:Nat){oi:Oper}{v:Value}{d f:Nat}{listed:Array Bool}{l:List Value}{ds:List Deferred}{w:World}(hS:S w)(h:anyK P md ops Q S z f (listed.setIfInBounds i true) {tmps:=(l.set d v).toArray,defers:=ds} w)
  (hi:ops[i]?=some oi:=by rfl) (hs:Region.noSelect ops=true:=by kernel_rfl) (hf:Region.free md ops listed i=true:=by kernel_rfl) (hr:(Region.ready md ops listed).contains i=true:=by kernel_rfl) (hz:Region.waitsFor md ops z i=true:=by kernel_rfl)
  (hQ:∀c a w,Q (.panic c) (a.put oi.dst v) w→Q (.panic c) a w:=by exact fun _ _ _ h=>h) (hy:YieldsIf P ops S oi v {tmps:=l.toArray,defers:=ds}:=by(refine Or.inl ⟨by rfl,?_⟩;intro w hSw;(try dsimp only at hSw);go_simp;try with_reducible rfl)) (hd:oi.dst=some d:=by rfl):anyK P md ops Q S z (f+1) listed {tmps:=l.toArray,defers:=ds} w:=
 takeK i hi hs hf hr hz hQ hy hS hd h
theorem setS{α:Type}{x:α}{xs:List α}{n:Nat}{y:α}:(x::xs).set (n+1) y=x::xs.set n y:=rfl
theorem setZ{α:Type}{x:α}{xs:List α}{y:α}:(x::xs).set 0 y=y::xs:=rfl
theorem nextK(i:Nat){o:Oper}{f:Nat}{listed:Array Bool}{a:Act}{w:World}(hr:Region.ready md ops listed=[i])(ho:ops[i]?=some o)(hg:o.guard=none)
  (h:∀K:Act→World→Prop,Shut (∀a w,(i≠z→S w)→anyK P md ops Q S z f (listed.setIfInBounds i true) a w→K a w)→o.wp P a w K Q):anyK P md ops Q S z (f+1) listed a w:=by
 refine⟨fun h0=>(by rw[hr]at h0;cases h0),fun j hj=>?_⟩;rw[hr,mS]at hj;subst hj;unfold wpOp;rw[ho];simp only;rw[if_pos (by unfold Region.wanted;rw[hg])];exact .inl (h _ fun a w hS hW=>⟨hS,hW⟩)
theorem nextKv(i:Nat){o:Oper}{f d:Nat}{listed:Array Bool}{l:List Value}{ds:List Deferred}{w:World}(hr:Region.ready md ops listed=[i])(ho:ops[i]?=some o)(hg:o.guard=none)(hd:o.dst=some d)
  (h:∀K:Act→World→Prop,Shut (∀v w,(i≠z→S w)→anyK P md ops Q S z f (listed.setIfInBounds i true) {tmps:=(l.set d v).toArray,defers:=ds} w→K (({tmps:=l.toArray,defers:=ds}:Act).put o.dst v) w)→o.wp P {tmps:=l.toArray,defers:=ds} w K Q):anyK P md ops Q S z (f+1) listed {tmps:=l.toArray,defers:=ds} w:=by
 refine nextK i hr ho hg fun K hK=>h K fun v w h1 h2=>?_
 refine hK _ _ h1 ?_;rw[hd];simpa [Act.put] using h2
theorem doneK{listed:Array Bool}{a:Act}{w:World}(hr:Region.ready md ops listed=[])(h:Q .normal a w):∀f,anyK P md ops Q S z f listed a w
 | 0=>⟨hr,h⟩
 | _+1=>⟨fun _=>h,by rw[hr];simp⟩
end
end Go.Proofs.YthaacmablcpdfaaGreatDoor
namespace Go.Proofs.YthaacmablcpdfaaGreatDoor
open Go.RowKit
structure Wd(I:World→Prop) where
 w:World
 ok:I w
theorem wd_call{P:Program}{f:FuncId}{args:Array Value}{I:World→Prop}{w:World}{v:Value}(h:Calls P f args w fun e w'=>e=.returned v∧I w') :
 Calls P f args w fun e w'=>e=.returned v∧∃y:Wd I,w'=y.w:=h.mono fun _ _ ⟨he,hi⟩=>⟨he,⟨_,hi⟩,rfl⟩
theorem wp_region_wd(I:World→Prop){P:Program}{id:Nat}{Q:Exit→Act→World→Prop}{a:Act}{w:World}{l:List Oper}(hm:P.follows .mixedOrders=true)(hB:Region.lexB .any l.toArray=true)
  (h0:I w.drew) (h:wpQuiet P l.toArray (fun w'=>∃y:Wd I,w'=y.w) (fun a'=>∀w',(∃y:Wd I,w'=y.w)→Q .normal a' w') l a):(Code.region id l.toArray true).wp P Q a w:=
 wp_region_quiet (C:=fun w'=>∃y:Wd I,w'=y.w) hm hB ⟨⟨w.drew,h0⟩,rfl⟩ (by simpa using h)
end Go.Proofs.YthaacmablcpdfaaGreatDoor
namespace Go.Proofs.YthaacmablcpdfaaGreatDoor
open Go.RowKit
set_option linter.unusedVariables false
namespace Chg
variable {X Y:Nat→Prop} {a b c:World}
theorem put(h:Chg X a b){r:Nat}(hp:a.heap.size≤r∨X r)(o:Obj):Chg X a (b.putObj r o):=
 ⟨h.os,h.tape,h.output,by simpa using h.size,fun k hk hx=>(World.putObj_heap_other (by rintro rfl;rcases hp with hp|hp;omega;exact hx hp)).trans (h.block k hk hx)⟩
end Chg
def Same(A:Nat→Prop)(w w':World):Prop:=∀b,A b→w'.heap[b]?=w.heap[b]?
theorem Same.refl(A:Nat→Prop)(w:World):Same A w w:=fun _ _=>rfl
theorem Same.trans{A:Nat→Prop}{a b c:World}(h:Same A a b)(k:Same A b c):Same A a c:=fun i hi=>(k i hi).trans (h i hi)
def Shy{β:Type}(B:Nat)(J:β→(Nat→Prop)→World→Prop):Prop:=
 ∀s A A' W W',J s A W→Chg (fun b=>B≤b∧A b) W W'→(∀b,A' b→A b∨W.heap.size≤b)→J s A' W'
def Seq{α:Type}(P:Program)(gf:Nat)(lb:Array Value)(encs:α→Array Value)(xs:List α)(A₀:Nat→Prop)(w:World):Prop:=
 ∀(l:Nat) (J:List α→(Nat→Prop)→World→Prop) (Jx:Unit→(Nat→Prop)→World→Prop) (W:World),Chg (fun _=>False) w W→Shy W.heap.size J→Shy W.heap.size Jx →
  (∀pre x A W1,J pre A W1→pre++[x] <+: xs→(∀b,A₀ b→A b)→(∀b,A b→b<W1.heap.size)→YieldAt Fence.wide 0 P l (encs x) W1 fun e W'=>W1.heap.size≤W'.heap.size∧Same A W1 W'∧((e=.returned (.bool true)∧J (pre++[x]) A W')∨(e=.returned (.bool false)∧Jx () A W'))) →
  J [] A₀ W →
  CallsIn Fence.wide 0 P gf (#[.func (.yield l) #[] #[]]++lb) W fun e W'=>(∃v,e=.returned v)∧∃A:Nat→Prop,(∀b,A₀ b→A b)∧(∀b,A b→b<W'.heap.size)∧(J xs A W'∨Jx () A W')
def roundEnd{α:Type}(I:List α→(Nat→Prop)→World→Prop)(Ix:Code→(Nat→Prop)→World→Prop)(xs:List α)(A:Nat→Prop)(W:World):Exit→Act→World→Prop
 | .normal,_,W'=>W.heap.size≤W'.heap.size∧Same A W W'∧I xs A W'
 | .ret,_,W'=>W.heap.size≤W'.heap.size∧Same A W W'∧Ix .ret A W'
 | .exit id,_,W'=>W.heap.size≤W'.heap.size∧Same A W W'∧Ix (.exit id) A W'
 | .goto t,_,W'=>W.heap.size≤W'.heap.size∧Same A W W'∧Ix (.goto t) A W'
 | .panic _,_,_=>False
 | .outgrown,_,_=>False
theorem Shy.step{β:Type}{B:Nat}{J:β→(Nat→Prop)→World→Prop}(h:Shy B J){s:β}{A:Nat→Prop}{W W':World}(hs:J s A W)(hc:Chg (fun b=>B≤b∧A b) W W'):J s A W':=h s A A W W' hs hc (fun _=>.inl)
def RoundOK{α:Type}(P:Program)(encs:α→Array Value)(ps:Array Tmp)(assign body:Code)(tmps:Array Value)(xs:List α)(A₀:Nat→Prop)(B:Nat)(I:List α→(Nat→Prop)→World→Prop)(Ix:Code→(Nat→Prop)→World→Prop):Prop:=
 ∀(l:Nat) (pre:List α) (x:α) (A:Nat→Prop) (W:World),pre++[x] <+: xs→B≤l→l<W.heap.size→A l→(∀b,A₀ b→A b)→(∀b,A b→b<W.heap.size)→I pre A W →
  assign.wpIn (Fence.wide.inRound l) 0 P (Exit.then (fun a' Wa=>W.heap.size≤Wa.heap.size∧Same A W Wa∧∀W2,Chg (·=l) Wa W2→Wa.heap.size=W2.heap.size→(∃r,W2.heap[l]?=some (.loop r)) →
   body.wpIn (Fence.wide.inRound l) 0 P (roundEnd I Ix (pre++[x]) A W2) a' W2) (fun _ _ _=>False))
   {tmps:=(ps.zip (encs x)).foldl (fun t (p,v)=>t.setIfInBounds p v) tmps,defers:=[]} W
section
variable {P:Program}
theorem rounds{α:Type}{encs:α→Array Value}{ps:Array Tmp}{assign body:Code}{tmps:Array Value}{xs:List α}{A₀:Nat→Prop}{B:Nat}{I:List α→(Nat→Prop)→World→Prop}{Ix:Code→(Nat→Prop)→World→Prop}
  (hI:Shy B I) (hIx:∀c,Shy B (fun(_:Unit)=>Ix c)) (hr:RoundOK P encs ps assign body tmps xs A₀ B I Ix) (hps:∀x,(encs x).size=ps.size) {fn:FuncId} {D l:Nat} (hl:B≤l) {X:Nat→Prop} (hX:X l)
  (rec:LoopState→Option Code→Loop) (hrec:rec=fun st pe=>{state:=st,pending:=pe,fn,tmps,params:=ps,assign,body,defers:=D})
  {pre:List α} {x:α} {A:Nat→Prop} {W:World} (hi:I pre (fun b=>A b∨X b) W) (hrl:W.heap[l]?=some (.loop (rec .ready none))) (hA:¬A l) (hp:pre++[x] <+: xs) (hsup:∀b,A₀ b→A b) (hltA:∀b,A b→b<W.heap.size) (hltX:∀b,X b→b<W.heap.size) :
  YieldAt Fence.wide 0 P l (encs x) W fun e W'=>W.heap.size≤W'.heap.size∧Same A W W'∧(∀b,X b→b≠l→W'.heap[b]?=W.heap[b]?) ∧
   (
    (e=.returned (.bool true)∧I (pre++[x]) (fun b=>A b∨X b) W'∧W'.heap[l]?=some (.loop (rec .ready none))) ∨
    (e=.returned (.bool false)∧∃c,Ix c (fun b=>A b∨X b) W'∧W'.heap[l]?=some (.loop (rec .done (some c))))):=by
 have hlt:l<W.heap.size:=(aG.1 hrl).1;have hy:=run_yield (P:=P) (args:=encs x) hrl (by rw[hrec];exact hps x);rw[hrec]at hy;refine⟨fn,_,assign,body,hy,roundIn_of_wpIn trivial (wpIn_mono (hr l pre x _ W hp hl hlt (.inr hX) (fun b hb=>.inl (hsup b hb)) (fun b hb=>hb.elim (hltA b) (hltX b)) hi) ?_)⟩;intro e a' Wa h;cases e with
 | normal=>
  obtain⟨hsz,hsame,hb⟩:=h;have hla:Wa.heap[l]?=some (.loop (rec .ready none)):=(hsame l (.inr hX)).trans hrl;have hlta:l<Wa.heap.size:=(aG.1 hla).1;refine⟨_,run_beginRound hla (by rw[hrec]),?_⟩;have hl2:(Wa.putObj l (.loop {rec .ready none with state:=.busy})).heap[l]?=some (.loop {rec .ready none with state:=.busy}):=World.putObj_heap_same hlta;have hc2:Chg (·=l) Wa (Wa.putObj l (.loop {rec .ready none with state:=.busy})):=(Chg.refl (·=l) Wa).put (r:=l) (.inr rfl) _;refine wpIn_mono (hb _ hc2 (by simp) ⟨_,hl2⟩) ?_;have fin:∀(jump:Option Code) (W3:World),(Wa.putObj l (.loop {rec .ready none with state:=.busy})).heap.size≤W3.heap.size→Same (fun b=>A b∨X b) (Wa.putObj l (.loop {rec .ready none with state:=.busy})) W3 →
     (Instr.endRound l jump).run P W3=.ok (.bool jump.isNone) (W3.putObj l (.loop (rec (if jump.isNone then .ready else .done) jump))) ∧
     W.heap.size≤(W3.putObj l (.loop (rec (if jump.isNone then .ready else .done) jump))).heap.size ∧
     Same A W (W3.putObj l (.loop (rec (if jump.isNone then .ready else .done) jump))) ∧
     (∀b,X b→b≠l→(W3.putObj l (.loop (rec (if jump.isNone then .ready else .done) jump))).heap[b]?=W.heap[b]?) ∧
     (W3.putObj l (.loop (rec (if jump.isNone then .ready else .done) jump))).heap[l]?=some (.loop (rec (if jump.isNone then .ready else .done) jump)) ∧
     Chg (fun b=>B≤b∧(A b∨X b)) W3 (W3.putObj l (.loop (rec (if jump.isNone then .ready else .done) jump))):=fun jump W3 hs3 hk3=>by
   have hl3:W3.heap[l]?=some (.loop {rec .ready none with state:=.busy}):=(hk3 l (.inr hX)).trans hl2;have h1:=run_endRound (P:=P) jump hl3;have hx:∀b,(A b∨X b)→b≠l→(W3.putObj l (.loop (rec (if jump.isNone then .ready else .done) jump))).heap[b]?=W.heap[b]?:=fun b hb hne=>(World.putObj_heap_other hne).trans ((hk3 b hb).trans ((World.putObj_heap_other hne).trans (hsame b hb)))
   refine⟨?_,?_,fun b hb=>hx b (.inl hb) (fun e=>hA (e▸hb)),fun b hb hne=>hx b (.inr hb) hne,World.putObj_heap_same (aG.1 hl3).1,(Chg.refl _ _).put (.inr ⟨hl,.inr hX⟩) _⟩
   · rw[hrec]at h1 ⊢;exact h1
   · rw[World.putObj_size]at hs3 ⊢;omega
  intro e a3 W3 hp3;cases e with
  | normal=>obtain⟨hs3,hk3,hi3⟩:=hp3;obtain⟨f1,f2,f3,f4,f5,f6⟩:=fin none W3 hs3 hk3;exact⟨_,_,f1,f2,f3,f4,.inl ⟨rfl,hI.step hi3 f6,f5⟩⟩
  | ret=>obtain⟨hs3,hk3,hi3⟩:=hp3;obtain⟨f1,f2,f3,f4,f5,f6⟩:=fin (some .ret) W3 hs3 hk3;exact⟨_,_,f1,f2,f3,f4,.inr ⟨rfl,.ret,(hIx _).step (s:=()) hi3 f6,f5⟩⟩
  | exit id=>obtain⟨hs3,hk3,hi3⟩:=hp3;obtain⟨f1,f2,f3,f4,f5,f6⟩:=fin (some (.exit id)) W3 hs3 hk3;exact⟨_,_,f1,f2,f3,f4,.inr ⟨rfl,.exit id,(hIx _).step (s:=()) hi3 f6,f5⟩⟩
  | goto t=>obtain⟨hs3,hk3,hi3⟩:=hp3;obtain⟨f1,f2,f3,f4,f5,f6⟩:=fin (some (.goto t)) W3 hs3 hk3;exact⟨_,_,f1,f2,f3,f4,.inr ⟨rfl,.goto t,(hIx _).step (s:=()) hi3 f6,f5⟩⟩
  | panic ch=>exact hp3.elim
  | outgrown=>exact hp3.elim
 | ret=>exact h.elim
 | exit id=>exact h.elim
 | goto t=>exact h.elim
 | panic ch=>exact h.elim
 | outgrown=>exact h.elim
theorem range_top{α:Type}{g:Operand}{ps:Array Tmp}{assign body:Code}{Q:Exit→Act→World→Prop}{a:Act}{w:World}{gf:Nat}{lb:Array Value}(hg:a.eval g=.func (.func gf) #[] lb)
  (eg:∀args w,(callFunc gf args).run P w=.ok (.enter gf args) w) {encs:α→Array Value} {xs:List α} {A₀:Nat→Prop} (hseq:Seq P gf lb encs xs A₀ w) (hA₀:∀b,A₀ b→b<w.heap.size) (hps:∀x,(encs x).size=ps.size)
  (I:List α→(Nat→Prop)→World→Prop) (Ix:Code→(Nat→Prop)→World→Prop) (hI:Shy w.heap.size I) (hIx:∀c,Shy w.heap.size (fun(_:Unit)=>Ix c)) (h0:I [] A₀ w)
  (hround:RoundOK P encs ps assign body a.tmps xs A₀ w.heap.size I Ix)
  (hdone:∀(D:Nat) (A:Nat→Prop) (W:World),w.heap.size≤D→A D→(∀b,A₀ b→A b)→(∀b,A b→b<W.heap.size)→I xs A W→W.heap[D]?=some (.deferred (some []))→Q .normal {a with defers:={target:=.collected D,args:=#[]}::a.defers} W)
  (hstop:∀(D:Nat) (c:Code) (A:Nat→Prop) (W:World),w.heap.size≤D→A D→(∀b,A₀ b→A b)→(∀b,A b→b<W.heap.size)→Ix c A W→W.heap[D]?=some (.deferred (some []))→c.wpIn Fence.wide 0 P Q {a with defers:={target:=.collected D,args:=#[]}::a.defers} W) :
  (Code.rangeFunc g ps assign body).wpIn Fence.wide 0 P Q a w:=by
 refine wpIn_rangeFunc ?_;intro fn hfn;rw[show Fence.wide.round=none from rfl];obtain⟨rec,hrec⟩:∃rec:LoopState→Option Code→Loop,rec=fun st pe=>{state:=st,pending:=pe,fn,tmps:=a.tmps,params:=ps,assign,body,defers:=w.heap.size}:=⟨_,rfl⟩
 obtain⟨W1,hW1⟩:∃W1,(w.alloc (.deferred (some []))).alloc (.loop (rec .ready none))=W1:=⟨_,rfl⟩
 have hL1:W1.heap[w.heap.size+1]?=some (.loop (rec .ready none)):=by rw[←hW1];have:=World.alloc_heap_new (w.alloc (.deferred (some []))) (.loop (rec .ready none));rwa [World.size_alloc]at this
 have hK1:W1.heap[w.heap.size]?=some (.deferred (some [])):=by rw[←hW1];exact(Below.heap_alloc _ _ _ (by simp)).trans (World.alloc_heap_new w _)
 have hc1:∀X,Chg X w W1:=fun X=>by rw[←hW1];exact((Chg.refl X w).alloc _).alloc _
 have hs1:W1.heap.size=w.heap.size+2:=by rw[←hW1];simp
 refine⟨w.heap.size+1,[{target:=.collected w.heap.size,args:=#[]}],W1,{target:=.fn (.func gf) lb,args:=#[.func (.yield (w.heap.size+1)) #[] #[]]},W1,gf,
  #[.func (.yield (w.heap.size+1)) #[] #[]]++lb,W1,?_,?_,?_,?_,(fun h=>(by cases h)),?_⟩
 ·rw[←hW1,hrec];exact run_enterLoop_outer _ _ _ _ _
 ·simp only[resolve,hg]
  simp[go_sem]
 ·intro f' hf';trivial
 ·simp[invoke,go_sem,eg]
 ·have hX:∀b,(b=w.heap.size∨b=w.heap.size+1)→w.heap.size≤b∧b<W1.heap.size:=fun b hb=>by omega
  refine(hseq (w.heap.size+1)
   (fun pre A W=>I pre (fun b=>A b∨(b=w.heap.size∨b=w.heap.size+1)) W∧W.heap[w.heap.size+1]?=some (.loop (rec .ready none))∧W.heap[w.heap.size]?=some (.deferred (some []))∧¬A w.heap.size∧¬A (w.heap.size+1))
   (fun _ A W=>∃c,Ix c (fun b=>A b∨(b=w.heap.size∨b=w.heap.size+1)) W∧W.heap[w.heap.size+1]?=some (.loop (rec .done (some c)))∧W.heap[w.heap.size]?=some (.deferred (some []))∧¬A w.heap.size∧¬A (w.heap.size+1))
   W1 (hc1 _) ?_ ?_ ?_ ?_).mono ?_
  ·rintro s A A' U U' ⟨h1,h2,h3,h4,h5⟩ hc hA'
   have u1:=(aG.1 h2).1;have u2:=(aG.1 h3).1;refine⟨hI s _ _ U U' h1 (hc.mono fun i hi=>⟨by omega,.inl hi.2⟩) (fun b hb=>?_),(hc.block _ u1 (fun h=>h5 h.2)).trans h2,(hc.block _ u2 (fun h=>h4 h.2)).trans h3,fun h=>?_,fun h=>?_⟩
   ·rcases hb with hb|hb
    ·exact(hA' b hb).elim (fun h=>.inl (.inl h)) .inr
    ·exact .inl (.inr hb)
   ·exact(hA' _ h).elim h4 (by omega)
   ·exact(hA' _ h).elim h5 (by omega)
  ·rintro s A A' U U' ⟨c,h1,h2,h3,h4,h5⟩ hc hA'
   have u1:=(aG.1 h2).1;have u2:=(aG.1 h3).1;refine⟨c,hIx c s _ _ U U' h1 (hc.mono fun i hi=>⟨by omega,.inl hi.2⟩) (fun b hb=>?_),(hc.block _ u1 (fun h=>h5 h.2)).trans h2,(hc.block _ u2 (fun h=>h4 h.2)).trans h3,fun h=>?_,fun h=>?_⟩
   ·rcases hb with hb|hb
    ·exact(hA' b hb).elim (fun h=>.inl (.inl h)) .inr
    ·exact .inl (.inr hb)
   ·exact(hA' _ h).elim h4 (by omega)
   ·exact(hA' _ h).elim h5 (by omega)
  ·rintro pre x A U ⟨h1,h2,h3,h4,h5⟩ hpre hsub hltA
   have u1:=(aG.1 h2).1;have u2:=(aG.1 h3).1;obtain⟨fn',tmps',assign',body',hy,hR⟩:=rounds (P:=P) (D:=w.heap.size) hI hIx hround hps (l:=w.heap.size+1) (by omega) (X:=fun b=>b=w.heap.size∨b=w.heap.size+1) (.inr rfl) rec hrec h1 h2 h5 hpre hsub hltA (fun b hb=>by rcases hb with rfl|rfl<;>assumption);refine⟨fn',tmps',assign',body',hy,hR.mono ?_⟩;rintro e U' ⟨g1,g2,g3,g4⟩;refine⟨g1,g2,?_⟩;rcases g4 with⟨rfl,k1,k2⟩|⟨rfl,c,k1,k2⟩
   ·exact .inl ⟨rfl,k1,k2,(g3 _ (.inl rfl) (by omega)).trans h3,h4,h5⟩
   ·exact .inr ⟨rfl,c,k1,k2,(g3 _ (.inl rfl) (by omega)).trans h3,h4,h5⟩
  ·refine⟨hI [] A₀ _ w W1 h0 (hc1 _) (fun b hb=>?_),hL1,hK1,fun h=>?_,fun h=>?_⟩
   ·rcases hb with hb|hb
    ·exact .inl hb
    ·exact .inr (hX b hb).1
   ·have:=hA₀ _ h;omega
   ·have:=hA₀ _ h;omega
  ·rintro e W2 ⟨⟨v,rfl⟩,A,hsup,hltA,(⟨h1,h2,h3,h4,h5⟩|⟨c,h1,h2,h3,h4,h5⟩)⟩
   ·refine⟨none,_,by have:=run_endLoop (P:=P) h2 (by rw[hrec];simp);rw[hrec]at this;exact this,hdone _ _ _ (leR _) (.inr (.inl rfl)) (fun b hb=>.inl (hsup b hb)) (fun b hb=>by have u1:=(aG.1 h2).1;have u2:=(aG.1 h3).1;rw[World.putObj_size];exact hb.elim (hltA b) (fun hb=>by rcases hb with rfl|rfl<;>assumption)) (hI.step h1 ((Chg.refl _ _).put (.inr ⟨by omega,.inr (.inr rfl)⟩) _)) ((World.putObj_heap_other (by omega)).trans h3)⟩
   ·refine⟨some c,_,by have:=run_endLoop (P:=P) h2 (by rw[hrec];simp);rw[hrec]at this;exact this,hstop _ c _ _ (leR _) (.inr (.inl rfl)) (fun b hb=>.inl (hsup b hb)) (fun b hb=>by have u1:=(aG.1 h2).1;have u2:=(aG.1 h3).1;rw[World.putObj_size];exact hb.elim (hltA b) (fun hb=>by rcases hb with rfl|rfl<;>assumption)) ((hIx c).step (s:=()) h1 ((Chg.refl _ _).put (.inr ⟨by omega,.inr (.inr rfl)⟩) _)) ((World.putObj_heap_other (by omega)).trans h3)⟩
end
end Go.Proofs.YthaacmablcpdfaaGreatDoor
namespace Go.Proofs.YthaacmablcpdfaaGreatDoor
open Go.RowKit
set_option linter.unusedVariables false
set_option maxRecDepth 100000
section
variable {P:Program} {ops:Array Oper} {Q:Exit→Act→World→Prop} {md:Region.Mode} {S:World→Prop} {Z:Nat→Bool}
def anyZ(P:Program)(md:Region.Mode)(ops:Array Oper)(Q:Exit→Act→World→Prop)(S:World→Prop)(Z:Nat→Bool):Nat→Array Bool→Act→World→Prop
 | 0,listed,a,w=>Region.ready md ops listed=[]∧Q .normal a w
 | f+1,listed,a,w=>(Region.ready md ops listed=[]→Q .normal a w)∧∀i∈Region.ready md ops listed,wpOp P ops Q i (fun a' w'=>(Z i=false→S w→S w')∧anyZ P md ops Q S Z f (listed.setIfInBounds i true) a' w') a w
theorem any_of_Z:∀(f:Nat) (listed:Array Bool) (a:Act) (w:World),anyZ P md ops Q S Z f listed a w→wpAny P md ops Q f listed a w
 | 0,_,_,_,h=>h
 | f+1,_,_,_,h=>⟨h.1,fun i hi=>wpOp_mono (fun a' w' h'=>any_of_Z f _ a' w' h'.2) (h.2 i hi)⟩
theorem wp_regionZ{id:Nat}{a:Act}{w:World}(Z:Nat→Bool)(S:World→Prop)(hm:P.follows .mixedOrders=true)(h:anyZ P .any ops Q S Z ops.size (Array.replicate ops.size false) a w.drew):(Code.region id ops true).wp P Q a w:=
 wp_region_any hm (any_of_Z _ _ _ _ h)
theorem firstZ{i:Nat}{oi:Oper}{v:Value}(hi:ops[i]?=some oi)(hsel:∀(j:Nat) (o:Oper) cs b,ops[j]?=some o→o.op ≠ .select cs b)(hQ:∀c a w,Q (.panic c) (a.put oi.dst v) w→Q (.panic c) a w)(hz:((List.range ops.size).all fun z=>!Z z||Region.waitsFor md ops z i)=true) :
  ∀(f:Nat) (listed:Array Bool) (a:Act) (w:World),(∀j oj,ops[j]?=some oj→j≠i→listed.getD j true=false→(∀e∈oj.after,Region.binds md e=true→e.on≠i)→oi.apart ops oj=true) →
   i∈Region.ready md ops listed→YieldsIf P ops S oi v a→S w→anyZ P md ops Q S Z f (listed.setIfInBounds i true) (a.put oi.dst v) w→anyZ P md ops Q S Z (f+1) listed a w:=by
 have hun:∀(listed:Array Bool) (j:Nat) (oj:Oper),i∈Region.ready md ops listed→ops[j]?=some oj→j∈Region.ready md ops listed→∀e∈oj.after,Region.binds md e=true→e.on≠i:=fun listed j oj hr hoj hj e he hb heq=>by
  obtain⟨_,oj',hoj',hall⟩:=mem_ready.1 hj;rw[hoj]at hoj';cases hoj'
  have h1:=hall e he hb;rw[heq,getD_both (mem_ready.1 hr).1]at h1;cases h1
 intro f;induction f with
 | zero=>
  intro listed a w _ hr hy hS H;refine⟨fun h=>(by rw[h]at hr;cases hr),fun j hj=>?_⟩;by_cases hji:j=i
  ·subst hji;exact hy.wpOp hi hS ⟨fun _ _=>hS,H⟩
  ·have h2:=ready_mono hj hji
   rw[H.1]at h2;cases h2
 | succ f ih=>
  intro listed a w hfree hr hy hS H;refine⟨fun h=>(by rw[h]at hr;cases hr),fun j hj=>?_⟩;by_cases hji:j=i
  ·subst hji;exact hy.wpOp hi hS ⟨fun _ _=>hS,H⟩
  ·have h1:=H.2 j (ready_mono hj hji)
   obtain⟨hjun,oj,hoj,_⟩:=mem_ready.1 hj;have hnot:=hun listed j oj hr hoj hj;have hjz:Z j=false:=by
    cases hZ:Z j with
    | false=>rfl
    | true=>
     have hjs:j<ops.size:=(aG.1 hoj).1;have h1:=List.all_eq_true.1 hz j (List.mem_range.2 hjs);rw[hZ]at h1;simp only[Bool.not_true,Bool.false_or]at h1;obtain⟨oz,hoz,ez,hez,hbz,honz⟩:=Region.waitsFor_spec h1;rw[hoj]at hoz;cases hoz
     exact absurd honz (hnot ez hez hbz)
   have h2:=wpOp_putIf hoj (hfree j oj hoj hji hjun hnot) (fun cs b=>hsel i oi cs b hi) (fun cs b=>hsel j oj cs b hoj) hQ hy h1;refine wpOp_mono (fun a' w' h3=>⟨h3.2.1,ih (listed.setIfInBounds j true) a' w' (fun k ok hk hki hku hkn=>hfree k ok hk hki ?_ hkn) (ready_mono hr (Ne.symm hji)) h3.1 (h3.2.1 hjz hS) ?_⟩) h2
   ·by_cases hjk:j=k
    ·subst hjk;exact hjun
    ·rw[getD_set_ne true hjk]at hku;exact hku
   ·rw[Array.setIfInBounds_comm _ _ hji]
    exact h3.2.2
theorem takeZ(i:Nat){oi:Oper}{v:Value}{d f:Nat}{listed:Array Bool}{l:List Value}{ds:List Deferred}{w:World}(hi:ops[i]?=some oi)(hs:Region.noSelect ops=true)(hf:Region.free md ops listed i=true)(hr:(Region.ready md ops listed).contains i=true)(hz:((List.range ops.size).all fun z=>!Z z||Region.waitsFor md ops z i)=true)
  (hQ:∀c a w,Q (.panic c) (a.put oi.dst v) w→Q (.panic c) a w) (hy:YieldsIf P ops S oi v {tmps:=l.toArray,defers:=ds}) (hS:S w) (hd:oi.dst=some d)
  (h:anyZ P md ops Q S Z f (listed.setIfInBounds i true) {tmps:=(l.set d v).toArray,defers:=ds} w):anyZ P md ops Q S Z (f+1) listed {tmps:=l.toArray,defers:=ds} w:=by
 refine firstZ hi (Region.noSelect_spec hs) hQ hz f listed _ w (Region.free_spec hi hf) (by simpa using hr) hy hS ?_;rw[hd];simpa [Act.put] using h
theorem firstP{i:Nat}{oi:Oper}{v:Value}(hi:ops[i]?=some oi)(hsel:∀(j:Nat) (o:Oper) cs b,ops[j]?=some o→o.op ≠ .select cs b)(hQ:∀c a w,Q (.panic c) (a.put oi.dst v) w→Q (.panic c) a w) :
  ∀(f:Nat) (listed:Array Bool) (a:Act) (w:World),(∀j oj,ops[j]?=some oj→j≠i→listed.getD j true=false→(∀e∈oj.after,Region.binds md e=true→e.on≠i)→oi.apart ops oj=true) →
   i∈Region.ready md ops listed→YieldsIf P ops (fun _=>True) oi v a→anyZ P md ops Q S Z f (listed.setIfInBounds i true) (a.put oi.dst v) w→anyZ P md ops Q S Z (f+1) listed a w:=by
 have hun:∀(listed:Array Bool) (j:Nat) (oj:Oper),i∈Region.ready md ops listed→ops[j]?=some oj→j∈Region.ready md ops listed→∀e∈oj.after,Region.binds md e=true→e.on≠i:=fun listed j oj hr hoj hj e he hb heq=>by
  obtain⟨_,oj',hoj',hall⟩:=mem_ready.1 hj;rw[hoj]at hoj';cases hoj'
  have h1:=hall e he hb;rw[heq,getD_both (mem_ready.1 hr).1]at h1;cases h1
 intro f;induction f with
 | zero=>
  intro listed a w _ hr hy H;refine⟨fun h=>(by rw[h]at hr;cases hr),fun j hj=>?_⟩;by_cases hji:j=i
  ·subst hji;exact hy.wpOp hi trivial ⟨fun _ h=>h,H⟩
  ·have h2:=ready_mono hj hji
   rw[H.1]at h2;cases h2
 | succ f ih=>
  intro listed a w hfree hr hy H;refine⟨fun h=>(by rw[h]at hr;cases hr),fun j hj=>?_⟩;by_cases hji:j=i
  ·subst hji;exact hy.wpOp hi trivial ⟨fun _ h=>h,H⟩
  ·have h1:=H.2 j (ready_mono hj hji)
   obtain⟨hjun,oj,hoj,_⟩:=mem_ready.1 hj;have hnot:=hun listed j oj hr hoj hj;have h2:=wpOp_putIf hoj (hfree j oj hoj hji hjun hnot) (fun cs b=>hsel i oi cs b hi) (fun cs b=>hsel j oj cs b hoj) hQ hy h1;refine wpOp_mono (fun a' w' h3=>⟨h3.2.1,ih (listed.setIfInBounds j true) a' w' (fun k ok hk hki hku hkn=>hfree k ok hk hki ?_ hkn) (ready_mono hr (Ne.symm hji)) h3.1 ?_⟩) h2
   ·by_cases hjk:j=k
    ·subst hjk;exact hjun
    ·rw[getD_set_ne true hjk]at hku;exact hku
   ·rw[Array.setIfInBounds_comm _ _ hji]
    exact h3.2.2
theorem takeP(i:Nat){oi:Oper}{v:Value}{d f:Nat}{listed:Array Bool}{l:List Value}{ds:List Deferred}{w:World}(hi:ops[i]?=some oi)(hs:Region.noSelect ops=true)(hf:Region.free md ops listed i=true)(hr:(Region.ready md ops listed).contains i=true)
  (hQ:∀c a w,Q (.panic c) (a.put oi.dst v) w→Q (.panic c) a w) (hy:YieldsIf P ops (fun _=>True) oi v {tmps:=l.toArray,defers:=ds}) (hd:oi.dst=some d)
  (h:anyZ P md ops Q S Z f (listed.setIfInBounds i true) {tmps:=(l.set d v).toArray,defers:=ds} w):anyZ P md ops Q S Z (f+1) listed {tmps:=l.toArray,defers:=ds} w:=by
 refine firstP hi (Region.noSelect_spec hs) hQ f listed _ w (Region.free_spec hi hf) (by simpa using hr) hy ?_;rw[hd];simpa [Act.put] using h
theorem nextZ(i:Nat){o:Oper}{f:Nat}{listed:Array Bool}{a:Act}{w:World}(hr:Region.ready md ops listed=[i])(ho:ops[i]?=some o)(hg:o.guard=none)
  (h:∀K:Act→World→Prop,Shut (∀a w',(Z i=false→S w→S w')→anyZ P md ops Q S Z f (listed.setIfInBounds i true) a w'→K a w')→o.wp P a w K Q):anyZ P md ops Q S Z (f+1) listed a w:=by
 refine⟨fun h0=>(by rw[hr]at h0;cases h0),fun j hj=>?_⟩;rw[hr,mS]at hj;subst hj;unfold wpOp;rw[ho];simp only;rw[if_pos (by unfold Region.wanted;rw[hg])];exact .inl (h _ fun a w hS hW=>⟨hS,hW⟩)
theorem nextZv(i:Nat){o:Oper}{f d:Nat}{listed:Array Bool}{l:List Value}{ds:List Deferred}{w:World}(hr:Region.ready md ops listed=[i])(ho:ops[i]?=some o)(hg:o.guard=none)(hd:o.dst=some d)
  (h:∀K:Act→World→Prop,Shut (∀v w',(Z i=false→S w→S w')→anyZ P md ops Q S Z f (listed.setIfInBounds i true) {tmps:=(l.set d v).toArray,defers:=ds} w'→K (({tmps:=l.toArray,defers:=ds}:Act).put o.dst v) w')→o.wp P {tmps:=l.toArray,defers:=ds} w K Q):anyZ P md ops Q S Z (f+1) listed {tmps:=l.toArray,defers:=ds} w:=by
 refine nextZ i hr ho hg fun K hK=>h K fun v w h1 h2=>?_
 refine hK _ _ h1 ?_;rw[hd];simpa [Act.put] using h2
theorem twoZ(i j:Nat){f:Nat}{listed:Array Bool}{a:Act}{w:World}(hr:Region.ready md ops listed=[i,j])(h1:wpOp P ops Q i (fun a' w'=>(Z i=false→S w→S w')∧anyZ P md ops Q S Z f (listed.setIfInBounds i true) a' w') a w)
  (h2:wpOp P ops Q j (fun a' w'=>(Z j=false→S w→S w')∧anyZ P md ops Q S Z f (listed.setIfInBounds j true) a' w') a w):anyZ P md ops Q S Z (f+1) listed a w:=by
 refine⟨fun h0=>(by rw[hr]at h0;cases h0),fun k hk=>?_⟩;rw[hr]at hk;rcases List.mem_cons.1 hk with rfl|hk
 ·exact h1
 ·rw[mS]at hk
  subst hk;exact h2
theorem oneZv(i:Nat){o:Oper}{f d:Nat}{listed:Array Bool}{l:List Value}{ds:List Deferred}{w:World}(ho:ops[i]?=some o)(hg:o.guard=none)(hd:o.dst=some d)
  (h:∀K:Act→World→Prop,Shut (∀v w',(Z i=false→S w→S w')→anyZ P md ops Q S Z f (listed.setIfInBounds i true) {tmps:=(l.set d v).toArray,defers:=ds} w'→K (({tmps:=l.toArray,defers:=ds}:Act).put o.dst v) w')→o.wp P {tmps:=l.toArray,defers:=ds} w K Q) :
  wpOp P ops Q i (fun a' w'=>(Z i=false→S w→S w')∧anyZ P md ops Q S Z f (listed.setIfInBounds i true) a' w') {tmps:=l.toArray,defers:=ds} w:=by
 unfold wpOp;rw[ho];simp only;rw[if_pos (by unfold Region.wanted;rw[hg])];refine .inl (h _ fun v w' hS hW=>?_);rw[hd];exact⟨hS,by simpa [Act.put] using hW⟩
theorem doneZ{listed:Array Bool}{a:Act}{w:World}(hr:Region.ready md ops listed=[])(h:Q .normal a w):∀f,anyZ P md ops Q S Z f listed a w
 | 0=>⟨hr,h⟩
 | _+1=>⟨fun _=>h,by rw[hr];simp⟩
end
end Go.Proofs.YthaacmablcpdfaaGreatDoor
namespace Go.Proofs.YthaacmablcpdfaaGreatDoor
open Go.RowKit
set_option linter.unusedVariables false
set_option maxRecDepth 1000000
def posixT:List UInt8:=[37,116,111,107,101,110,32,87,79,82,68,32,65,83,83,73,71,78,32,78,65,77,69,32,78,85,77,32,78,69,87,76,73,78,69,32,39,38,38,39,32,39,124,124,39,32,39,59,59,39,32,39,59,39,32,39,38,39,32,39,124,39,32,39,40,39,32,39,41,39,10,37,116,111,107,101,110,32,39,60,39,32,39,62,39,32,39,62,62,39,32,39,60,60,39,32,39,60,60,45,39,32,39,60,38,39,32,39,62,38,39,32,39,60,62,39,32,39,62,124,39,10,37,116,111,107,101,110,32,73,102,32,84,104,101,110,32,69,108,115,101,32,69,108,105,102,32,70,105,32,68,111,32,68,111,110,101,32,67,97,115,101,32,69,115,97,99,32,87,104,105,108,101,32,85,110,116,105,108,32,70,111,114,32,76,98,114,97,99,101,32,82,98,114,97,99,101,32,66,97,110,103,32,73,110,10,37,115,116,97,114,116,32,117,110,105,116,10,37,37,10,117,110,105,116,32,58,32,99,111,109,112,108,101,116,101,32,78,69,87,76,73,78,69,32,59,10,99,111,109,112,108,101,116,101,32,58,32,108,105,115,116,32,124,32,108,105,115,116,32,115,101,112,111,112,32,59,10,108,105,115,116,32,58,32,108,105,115,116,32,115,101,112,111,112,32,97,110,100,111,114,32,124,32,97,110,100,111,114,32,59,10,97,110,100,111,114,32,58,32,112,105,112,101,108,105,110,101,32,124,32,97,110,100,111,114,32,39,38,38,39,32,108,105,110,101,98,114,101,97,107,32,112,105,112,101,108,105,110,101,32,124,32,97,110,100,111,114,32,39,124,124,39,32,108,105,110,101,98,114,101,97,107,32,112,105,112,101,108,105,110,101,32,59,10,112,105,112,101,108,105,110,101,32,58,32,112,105,112,101,115,32,124,32,66,97,110,103,32,112,105,112,101,115,32,59,10,112,105,112,101,115,32,58,32,99,111,109,109,97,110,100,32,124,32,112,105,112,101,115,32,39,124,39,32,108,105,110,101,98,114,101,97,107,32,99,111,109,109,97,110,100,32,59,10,99,111,109,109,97,110,100,32,58,32,115,105,109,112,108,101,32,124,32,99,111,109,112,111,117,110,100,32,124,32,99,111,109,112,111,117,110,100,32,114,101,100,105,114,115,32,124,32,102,117,110,99,116,105,111,110,32,59,10,99,111,109,112,111,117,110,100,32,58,32,98,114,97,99,101,32,124,32,115,117,98,115,104,101,108,108,32,124,32,102,111,114,99,32,124,32,99,97,115,101,99,32,124,32,105,102,99,32,124,32,119,104,105,108,101,99,32,124,32,117,110,116,105,108,99,32,59,10,115,117,98,115,104,101,108,108,32,58,32,39,40,39,32,99,108,105,115,116,32,39,41,39,32,59,10,99,108,105,115,116,32,58,32,108,105,110,101,98,114,101,97,107,32,116,101,114,109,32,124,32,108,105,110,101,98,114,101,97,107,32,116,101,114,109,32,115,101,112,32,59,10,116,101,114,109,32,58,32,116,101,114,109,32,115,101,112,32,97,110,100,111,114,32,124,32,97,110,100,111,114,32,59,10,102,111,114,99,32,58,32,70,111,114,32,78,65,77,69,32,100,111,103,114,111,117,112,32,124,32,70,111,114,32,78,65,77,69,32,115,101,113,115,101,112,32,100,111,103,114,111,117,112,10,32,124,32,70,111,114,32,78,65,77,69,32,108,105,110,101,98,114,101,97,107,32,73,110,32,115,101,113,115,101,112,32,100,111,103,114,111,117,112,32,124,32,70,111,114,32,78,65,77,69,32,108,105,110,101,98,114,101,97,107,32,73,110,32,119,111,114,100,115,32,115,101,113,115,101,112,32,100,111,103,114,111,117,112,32,59,10,119,111,114,100,115,32,58,32,119,111,114,100,115,32,87,79,82,68,32,124,32,87,79,82,68,32,59,10,99,97,115,101,99,32,58,32,67,97,115,101,32,87,79,82,68,32,108,105,110,101,98,114,101,97,107,32,73,110,32,108,105,110,101,98,114,101,97,107,32,99,97,115,101,108,105,115,116,32,69,115,97,99,10,32,124,32,67,97,115,101,32,87,79,82,68,32,108,105,110,101,98,114,101,97,107,32,73,110,32,108,105,110,101,98,114,101,97,107,32,99,97,115,101,108,105,115,116,110,115,32,69,115,97,99,32,124,32,67,97,115,101,32,87,79,82,68,32,108,105,110,101,98,114,101,97,107,32,73,110,32,108,105,110,101,98,114,101,97,107,32,69,115,97,99,32,59,10,99,97,115,101,108,105,115,116,110,115,32,58,32,99,97,115,101,108,105,115,116,32,99,97,115,101,105,116,101,109,110,115,32,124,32,99,97,115,101,105,116,101,109,110,115,32,59,10,99,97,115,101,108,105,115,116,32,58,32,99,97,115,101,108,105,115,116,32,99,97,115,101,105,116,101,109,32,124,32,99,97,115,101,105,116,101,109,32,59,10,99,97,115,101,105,116,101,109,110,115,32,58,32,112,97,116,116,101,114,110,32,39,41,39,32,108,105,110,101,98,114,101,97,107,32,124,32,112,97,116,116,101,114,110,32,39,41,39,32,99,108,105,115,116,10,32,124,32,39,40,39,32,112,97,116,116,101,114,110,32,39,41,39,32,108,105,110,101,98,114,101,97,107,32,124,32,39,40,39,32,112,97,116,116,101,114,110,32,39,41,39,32,99,108,105,115,116,32,59,10,99,97,115,101,105,116,101,109,32,58,32,112,97,116,116,101,114,110,32,39,41,39,32,108,105,110,101,98,114,101,97,107,32,39,59,59,39,32,108,105,110,101,98,114,101,97,107,32,124,32,112,97,116,116,101,114,110,32,39,41,39,32,99,108,105,115,116,32,39,59,59,39,32,108,105,110,101,98,114,101,97,107,10,32,124,32,39,40,39,32,112,97,116,116,101,114,110,32,39,41,39,32,108,105,110,101,98,114,101,97,107,32,39,59,59,39,32,108,105,110,101,98,114,101,97,107,32,124,32,39,40,39,32,112,97,116,116,101,114,110,32,39,41,39,32,99,108,105,115,116,32,39,59,59,39,32,108,105,110,101,98,114,101,97,107,32,59,10,112,97,116,116,101,114,110,32,58,32,87,79,82,68,32,124,32,112,97,116,116,101,114,110,32,39,124,39,32,87,79,82,68,32,59,10,105,102,99,32,58,32,73,102,32,99,108,105,115,116,32,84,104,101,110,32,99,108,105,115,116,32,101,108,115,101,112,97,114,116,32,70,105,32,124,32,73,102,32,99,108,105,115,116,32,84,104,101,110,32,99,108,105,115,116,32,70,105,32,59,10,101,108,115,101,112,97,114,116,32,58,32,69,108,105,102,32,99,108,105,115,116,32,84,104,101,110,32,99,108,105,115,116,32,124,32,69,108,105,102,32,99,108,105,115,116,32,84,104,101,110,32,99,108,105,115,116,32,101,108,115,101,112,97,114,116,32,124,32,69,108,115,101,32,99,108,105,115,116,32,59,10,119,104,105,108,101,99,32,58,32,87,104,105,108,101,32,99,108,105,115,116,32,100,111,103,114,111,117,112,32,59,10,117,110,116,105,108,99,32,58,32,85,110,116,105,108,32,99,108,105,115,116,32,100,111,103,114,111,117,112,32,59,10,102,117,110,99,116,105,111,110,32,58,32,78,65,77,69,32,39,40,39,32,39,41,39,32,108,105,110,101,98,114,101,97,107,32,102,117,110,98,111,100,121,32,59,10,102,117,110,98,111,100,121,32,58,32,99,111,109,112,111,117,110,100,32,124,32,99,111,109,112,111,117,110,100,32,114,101,100,105,114,115,32,59,10,98,114,97,99,101,32,58,32,76,98,114,97,99,101,32,99,108,105,115,116,32,82,98,114,97,99,101,32,59,10,100,111,103,114,111,117,112,32,58,32,68,111,32,99,108,105,115,116,32,68,111,110,101,32,59,10,115,105,109,112,108,101,32,58,32,112,114,101,102,105,120,32,99,109,100,119,111,114,100,32,115,117,102,102,105,120,32,124,32,112,114,101,102,105,120,32,99,109,100,119,111,114,100,32,124,32,112,114,101,102,105,120,32,124,32,99,109,100,110,97,109,101,32,115,117,102,102,105,120,32,124,32,99,109,100,110,97,109,101,32,59,10,99,109,100,110,97,109,101,32,58,32,87,79,82,68,32,124,32,78,65,77,69,32,59,10,99,109,100,119,111,114,100,32,58,32,87,79,82,68,32,59,10,112,114,101,102,105,120,32,58,32,114,101,100,105,114,32,124,32,112,114,101,102,105,120,32,114,101,100,105,114,32,124,32,65,83,83,73,71,78,32,124,32,112,114,101,102,105,120,32,65,83,83,73,71,78,32,59,10,115,117,102,102,105,120,32,58,32,114,101,100,105,114,32,124,32,115,117,102,102,105,120,32,114,101,100,105,114,32,124,32,87,79,82,68,32,124,32,115,117,102,102,105,120,32,87,79,82,68,32,59,10,114,101,100,105,114,115,32,58,32,114,101,100,105,114,32,124,32,114,101,100,105,114,115,32,114,101,100,105,114,32,59,10,114,101,100,105,114,32,58,32,105,111,102,105,108,101,32,124,32,78,85,77,32,105,111,102,105,108,101,32,124,32,105,111,104,101,114,101,32,124,32,78,85,77,32,105,111,104,101,114,101,32,59,10,105,111,102,105,108,101,32,58,32,39,60,39,32,87,79,82,68,32,124,32,39,60,38,39,32,87,79,82,68,32,124,32,39,62,39,32,87,79,82,68,32,124,32,39,62,38,39,32,87,79,82,68,32,124,32,39,62,62,39,32,87,79,82,68,32,124,32,39,60,62,39,32,87,79,82,68,32,124,32,39,62,124,39,32,87,79,82,68,32,59,10,105,111,104,101,114,101,32,58,32,39,60,60,39,32,87,79,82,68,32,124,32,39,60,60,45,39,32,87,79,82,68,32,59,10,110,101,119,108,105,110,101,115,32,58,32,78,69,87,76,73,78,69,32,124,32,110,101,119,108,105,110,101,115,32,78,69,87,76,73,78,69,32,59,10,108,105,110,101,98,114,101,97,107,32,58,32,110,101,119,108,105,110,101,115,32,124,32,59,10,115,101,112,111,112,32,58,32,39,38,39,32,124,32,39,59,39,32,59,10,115,101,112,32,58,32,115,101,112,111,112,32,108,105,110,101,98,114,101,97,107,32,124,32,110,101,119,108,105,110,101,115,32,59,10,115,101,113,115,101,112,32,58,32,39,59,39,32,108,105,110,101,98,114,101,97,107,32,124,32,110,101,119,108,105,110,101,115,32,59,10]
def posixB(g:PG):Bool:=g.T.length==38&&(g.T++g.N)[17]?==some [39,60,60,45,39]&&(g.T++g.N)[g.s-1]?==some [117,110,105,116]&&decide (1≤g.s)&&decide (g.s≤g.T.length+g.N.length)
theorem posix_run:(match parseL posixT with | .ok g=>posixB g | .error _=>false)=true:=by decide +kernel
theorem posix_ok:∃g,parseL posixT=.ok g∧posixB g=true:=by
 have h:=posix_run;cases hp:parseL posixT with
 | error e=>rw[hp]at h;cases h
 | ok g=>rw[hp]at h;exact⟨g,rfl,h⟩
end Go.Proofs.YthaacmablcpdfaaGreatDoor
namespace Go.Proofs.YthaacmablcpdfaaGreatDoor
open Go.RowKit Go.Maps
set_option linter.unusedVariables false
theorem lefts_look{w:World}{mb n:Nat}{D:DataW Unit}{L:List (List UInt8)}(h:w.ownsMap Tryz.prog 9 (plainElem Tryz.prog 3) mb n D)(hL:Lefts D L){s:List UInt8}(hs:s.length≤8192):(Instr.lookup 137 (.map (some mb)) (.string (str s)) false).run Tryz.prog w=.ok (.int .i64 (L.count s)) w:=by have hk:=WideMaps.keyOf_string_mk Tryz.underlying9 (s:=str s) (by rw[str_size];unfold maxLen;omega);obtain⟨c,h1,h2,_⟩:=h.lookup_int lawStrR Tryz.underlying137 Tryz.underlying3 (zeroIntR w) hk;rw[h1];have h3:=hL s;have h2':D.atKey (klR s) (.lit (.int .i64 0))=.lit (.int .i64 c):=h2;rw[h3]at h2';simp only[DataW.lit.injEq,Lit.int.injEq,true_and]at h2';rw[←h2']
theorem lefts_put{w:World}{mb n:Nat}{D:DataW Unit}(h:w.ownsMap Tryz.prog 9 (plainElem Tryz.prog 3) mb n D)(hn:n≤100000){s:List UInt8}(hs:s.length≤8192){c:Nat}(hc:c≤100000) :
  ∃w',(Instr.mapUpdate 137 (.map (some mb)) (.string (str s)) (.int .i64 ((c:Int)+1))).run Tryz.prog w=.ok () w'∧w'.ownsMap Tryz.prog 9 (plainElem Tryz.prog 3) mb (n+1) (D.put (klR s) (.lit (.int .i64 (c+1))))∧w.grownBy w' (some mb):=by
 have hk:=WideMaps.keyOf_string_mk Tryz.underlying9 (s:=str s) (by rw[str_size];unfold maxLen;omega);exact h.update lawStrR Tryz.underlying137 (by unfold maxLen;omega) hk (plainElem_int Tryz.underlying3 (WalkArith.wf_i64 (by omega)))
theorem Appended.drew{w w7:World}{B rb mb bb:Nat}{tb:Option Nat}{l:List Tk}{x:Txt}{dv kv sv rv:Value}{rs:List GRu}{q:GRu}{D:DataW Unit}(h:Appended w w7 B rb mb bb tb l x dv kv sv rv rs q D):Appended w w7.drew B rb mb bb tb l x dv kv sv rv rs q D:=by have hd:Chg (fun _=>False) w7 w7.drew:=(Chg.refl _ _).drew;exact⟨h.heads.drew,hd.own h.rules (fun _ _=>id),fun r hr=>(h.good r hr).chg hd (fun _ _ _=>id),map_chg h.map hd id,hd.blk h.blk id,h.chg.drew⟩
def RuleREnd(w:World)(B rb mb:Nat)(tb:Option Nat)(x:Txt)(dv kv sv:Value)(rs:List GRu)(l:List Tk)(e:Ending)(w':World):Prop:=
 Chg (fun k=>k=rb∨B≤k∨k=mb) w w'∧match oneR l with
 | .ok (r,l')=>e=.returned (.tuple #[])∧∃rv q D,q.r=r∧Rules w' B rb mb tb l' x dv kv sv rv (rs++[q]) D
 | .error f=>Gives f e
theorem drop_le(l:List Tk):(l.dropWhile symT).length≤l.length:=(List.dropWhile_sublist symT).length_le
theorem one_yes{t t2:Tk}{r2:List Tk}(h1:t.k=1)(h3:t2.k=3){a:List PS}{t4:Tk}{r4:List Tk}(hs:sidesL (r2.length+1) [sideL r2] (r2.dropWhile symT)=(a,t4::r4))(h5:t4.k=5):oneR (t::t2::r2)=.ok (⟨t,a⟩,r4):=by simp[oneR,h1,isK,h3,hs,h5]
theorem one_no{t t2:Tk}{r2:List Tk}(h1:t.k=1)(h3:t2.k=3){a:List PS}{t4:Tk}{r4:List Tk}(hs:sidesL (r2.length+1) [sideL r2] (r2.dropWhile symT)=(a,t4::r4))(h5:t4.k≠5):oneR (t::t2::r2)=.error (badT (t4::r4)):=by simp[oneR,h1,isK,h3,hs,h5]
def SidesTo(S:List PS×List Tk)(ss:List GS)(rest:List Tk):Prop:=∃f,rest.length≤f∧S=sidesL f (ss.map GS.s) rest
theorem SidesTo.step{S:List PS×List Tk}{ss:List GS}{t:Tk}{r:List Tk}(h:SidesTo S ss (t::r))(hk:t.k=4)(q:GS)(hq:q.s=sideL r):SidesTo S (ss++[q]) (r.dropWhile symT):=by
 obtain⟨f,hf,h⟩:=h;cases f with
 | zero=>simp at hf
 | succ f=>have:=drop_le r;simp at hf;refine⟨f,by omega,?_⟩;rw[h,sidesL,if_pos (by simp[isK,hk])];simp[hq]
theorem SidesTo.last{S:List PS×List Tk}{ss:List GS}{t:Tk}{r:List Tk}(h:SidesTo S ss (t::r))(hk:t.k≠4):S=(ss.map GS.s,t::r):=by
 obtain⟨f,hf,h⟩:=h;cases f with
 | zero=>simp at hf
 | succ f=>rw[h,sidesL,if_neg (by simp[isK,hk])]
set_option maxRecDepth 100000 in
set_option maxHeartbeats 3200000 in
theorem readrule_any{w:World}{B rb mb:Nat}{tb:Option Nat}{l:List Tk}{x:Txt}{dv kv sv rv:Value}{rs:List GRu}{D:DataW Unit}(h:Rules w B rb mb tb l x dv kv sv rv rs D)(hsh:∀u∈l,u.s.length≤8192):Calls Tryz.prog 121 #[.pointer (some ⟨rb,0,none⟩)] w (RuleREnd w B rb mb tb x dv kv sv rs l):=by
 obtain⟨t,r,rfl⟩:=h.heads.stand.ended.cons;have hst:=hsh t (by simp);have HST:=Hd hst;clear hsh hst;obtain⟨Ar,cr,rfl⟩:=own_shape h.rules;by_cases h1:t.k=1
 ·obtain⟨hend,hne⟩:=h.heads.stand.ended.tail (by omega)
  obtain⟨t2,r2,rfl⟩:=hend.cons;have HW1:=Hd (h.heads.stand.want 1 1 rfl h1 (by omega));have hlt:=h.heads.stand.lt;have hlen:=h.lr;simp at hlen;have HH:=Hd h;by_cases h3:t2.k=3
  ·obtain⟨hend3,hne3⟩:=hend.tail (by omega)
   obtain⟨t3,r3,hr2⟩:=hend3.cons;have HK1:=Hd h1;have HK3:=Hd h3;have HDL:=Hd (drop_le r2);clear h h1 h3 hend hne hend3 hne3 hr2;go_enter Tryz.func121,Tryz.ntmps121
   go_wp2_with (first
    | (
      go_at_call 169;(with_reducible refine HW1.out.mono ?_);intro e w1 hx;obtain⟨rfl,hc1,hs1⟩:=hx
      have HC1:=Hd hc1;have hsz1:=hc1.size;have hs1a:=hs1.chg ((Chg.refl (fun _=>False) w1).alloc (.cells #[.int .i64 t.k,.string (str t.s),.int .i64 t.p,.slice none 0 0] 208)) id (fun _ _=>id);have HBX:=Hd (Blk.new w1 208 #[.int .i64 t.k,.string (str t.s),.int .i64 t.p,.slice none 0 0]);have HW2:=Hd (hs1a.want 3 3 rfl HK3.out (by omega));clear hc1 hs1 hs1a)
    | (
      go_at_call 169;(with_reducible refine HW2.out.mono ?_);intro e w2 hx;obtain⟨rfl,hc2,hs2⟩:=hx
      have hblk:=hc2.blk HBX.out (by omega);have HS0:Hid (SidesAt w rb dv kv sv (.slice Ar rs.length cr) (.map (some mb)) tb w1.heap.size t (.slice none 0 0) [] r2 w2):=Hd ⟨hs2,hblk,World.ownsRow_nil _ _ _ _,(by simp),(HC1.out.alloc _).next hc2,hsz1,hlt.1,hlt.2⟩;clear hc2 hs2 hblk))
   generalize w1.heap.size=bb at *;have HD:=Hd HS0.out.drew;have HSIDE:=Hd (side_any HD.out.stand (by omega));have b3:=HD.out.blk.cell 3;have u3:=HD.out.blk.frozen 3;have hszw:=HD.out.chg.size;simp at b3;go_region_law (first
    | (
      refine step_app ElSide (.tmp 9) (.tmp 12) ?_ ?_ (base:=w.heap.size) (n:=0) (m:=1) (N:=1) (v:=.slice none 0 0) (src:=.slice (some ⟨w3.heap.size,0,none⟩) 1 1) (xs:=[]) (news:=[.slice A (sideL r2).l.length c,.int .i64 (sideL r2).p]) ?_ ?_ ?_ ?_ ?_ ?_ ?_ ?_ ?_
      · rfl
      · rfl
      · rfl
      · rfl
      · exact World.ownsRow_nil _ _ _ _
      · exact src_side w3 _ _ _ _
      · rfl
      · unfold maxLen;omega
      · omega
      · simp;omega
      intro A4 c4 w4 r1 r2' r3;have HF:=Hd (HD.out.rel rfl HC3.out HS3.out HO3.out r1 r2');have hk2:=r2'.blk (HB3.out.alloc _) (.inr (by decide));have z0:=hk2.cell 3;have z1:=hk2.frozen 3;simp at z0;clear r1 r2' r3 hk2)
    | (
      go_simp;go_at_call 170;refine HSIDE.out.mono ?_;intro e w3 hx;obtain⟨A,c,rfl,hc3,hs3,ho3⟩:=hx;have hl3:=HD.out.later hc3 hs3;have y0:=hl3.blk.cell 3;have y1:=hl3.blk.frozen 3;simp at y0;have HB3:=Hd hl3.blk;have hbb3:=hl3.blk.lt;have HC3:=Hd hc3;have HS3:=Hd hs3;have HO3:=Hd ho3;have hsz3:w2.heap.size≤w3.heap.size:=hc3.size;clear hc3 hs3 ho3 hl3))
   all_goals go_wp2
   all_goals
    have hl1:([⟨sideL r2,.slice A (sideL r2).l.length c⟩]:List GS).length+(r2.dropWhile symT).length≤100000:=by have:=HDL.out;simp;omega
    have HL1:=Hd (And.intro hl1 HDL.out);clear hl1;go_loopg [] (r2.dropWhile symT).length (fun n wr=>∃(bv:Value) (ss:List GS) (rest:List Tk),n=rest.length∧Hid (SidesAt w rb dv kv sv (.slice Ar rs.length cr) (.map (some mb)) tb bb t bv ss rest wr)∧Hid (SidesTo (sidesL (r2.length+1) [sideL r2] (r2.dropWhile symT)) ss rest)∧Hid (ss.length+rest.length≤100000∧rest.length≤r2.length))
    case atStart=>exact⟨.slice A4 1 c4,[⟨sideL r2,.slice A (sideL r2).l.length c⟩],r2.dropWhile symT,rfl,Hd HF.out,Hd ⟨r2.length+1,by have:=HDL.out;omega,rfl⟩,HL1⟩
    case round=>
     obtain⟨bv,ss,rest,rfl,HS,HTO,HLL⟩:=hrel;obtain⟨t4,r4,rfl⟩:=HS.out.stand.ended.cons;have HIS:=Hd (HS.out.stand.is 4 4 rfl);obtain⟨Ab,cb,rfl⟩:=own_shape HS.out.own;obtain⟨hll,hll2⟩:=HLL.out;simp at hll hll2;by_cases h4:t4.k=4
     · have hk4:(t4.k==4)=true:=by simp[h4]
       rw[hk4]at HIS;have HT4:=Hd (HS.out.stand.take (by omega));have HK4:=Hd h4;clear hk4 h4;go_wp2_with (first
         | (go_at_call 118;(with_reducible refine HIS.out.mono ?_);rintro e w' ⟨rfl,hw'⟩;subst hw')
         | (
           go_at_call 120;refine HT4.out.mono ?_;intro e w5 hx;obtain⟨rfl,hc5,hs5⟩:=hx
           have HS5:=Hd (HS.out.later hc5 hs5);clear hc5 hs5))
       have HD5:=Hd HS5.out.drew;have HSIDE5:=Hd (side_any HD5.out.stand (by omega));have b5:=HD5.out.blk.cell 3;have u5:=HD5.out.blk.frozen 3;have hszw5:=HD5.out.chg.size;simp at b5;go_region_law (first
         | (
           refine step_app ElSide (.tmp 20) (.tmp 23) ?_ ?_ (base:=w.heap.size) (n:=ss.length) (m:=1) (N:=ss.length+1) (v:=.slice Ab ss.length cb) (src:=.slice (some ⟨w6.heap.size,0,none⟩) 1 1) (xs:=ss.flatMap GS.cells) (news:=[.slice A6 (sideL r4).l.length c6,.int .i64 (sideL r4).p]) ?_ ?_ ?_ ?_ ?_ ?_ ?_ ?_ ?_
           · rfl
           · rfl
           · rfl
           · rfl
           · exact HL6.out.own.alloc _
           · exact src_side w6 _ _ _ _
           · rfl
           · unfold maxLen;omega
           · omega
           · simp;omega
           intro A7 c7 w7 r1 r2' r3;have HG:=Hd (HD5.out.rel rfl HC6.out HS6.out HO6.out r1 r2');have hk2:=r2'.blk (HL6.out.blk.alloc _) (.inr (by decide));have z0:=hk2.cell 3;have z1:=hk2.frozen 3;simp at z0;clear r1 r2' r3 hk2)
         | (
           go_simp;go_at_call 170;refine HSIDE5.out.mono ?_;intro e w6 hx;obtain⟨A6,c6,rfl,hc6,hs6,ho6⟩:=hx;have hl6:=HD5.out.later hc6 hs6;have y0:=hl6.blk.cell 3;have y1:=hl6.blk.frozen 3;simp at y0;have HL6:=Hd hl6;have hbb6:=hl6.blk.lt;have HC6:=Hd hc6;have HS6:=Hd hs6;have HO6:=Hd ho6;have hsz6:w5.heap.size≤w6.heap.size:=hc6.size;clear hc6 hs6 ho6 hl6))
       all_goals go_wp2
       all_goals have hdl:=drop_le r4
       all_goals go_roundg (r4.dropWhile symT).length
       all_goals first
         | (case measure=>simp;omega)
         | (case rel=>exact⟨.slice A7 (ss.length+1) c7,ss++[⟨sideL r4,.slice A6 (sideL r4).l.length c6⟩],r4.dropWhile symT,rfl,Hd HG.out,Hd (HTO.out.step HK4.out _ rfl),Hd ⟨by simp;omega,by omega⟩⟩)
     · have hk4:(t4.k==4)=false:=by simp[h4]
       rw[hk4]at HIS;have HLAST:=Hd (HTO.out.last h4);have HK4:=Hd h4;clear hk4 h4;by_cases h5:t4.k=5
       · have HW5:=Hd (HS.out.stand.want 5 5 rfl h5 (by omega))
         have HE:=Hd (one_yes HK1.out HK3.out HLAST.out h5);clear h5;go_wp2_with (first
          | (go_at_call 118;(with_reducible refine HIS.out.mono ?_);rintro e w' ⟨rfl,hw'⟩;subst hw')
          | (
             go_at_call 169;refine HW5.out.mono ?_;intro e w5 hx;obtain⟨rfl,hc5,hs5⟩:=hx
             have HS5:=Hd (HS.out.later hc5 hs5);clear hc5 hs5))
         have HD5:=Hd HS5.out.drew;have HH5:=Hd (HH.out.heads.chg HD5.out.chg (fun _ h=>h) HD5.out.stand (by simp;omega));have HRR:=Hd (HD5.out.chg.own HH.out.rules (own_ne HH.out.rules HH.out.heads.rbB));obtain⟨_,_,_,e4,e5,hrb5⟩:=HS5.out.stand.cells;have x0:=HS5.out.blk.cell 0;have x1:=HS5.out.blk.cell 1;have x2:=HS5.out.blk.cell 2;have x3:=HS5.out.blk.cell 3;simp at x0 x1 x2 x3;have hBw5:B≤w5.heap.size:=HH5.out.bB;have hbb5:=HS5.out.blk.lt;go_region_law (
              refine step_app ElRule (.tmp 32) (.tmp 34) ?_ ?_ (base:=B) (n:=rs.length) (m:=1) (N:=rs.length+1) (v:=.slice Ar rs.length cr) (src:=.slice (some ⟨w5.heap.size,0,none⟩) 1 1) (xs:=rs.flatMap GRu.cells) (news:=[.int .i64 t.k,.string (str t.s),.int .i64 t.p,.slice Ab ss.length cb]) ?_ ?_ ?_ ?_ ?_ ?_ ?_ ?_ ?_
              ·rfl
              ·rfl
              ·rfl
              ·rfl
              ·exact HRR.out.alloc _
              ·exact SrcOK.blk (c:=1) (Blk.new w5.drew 208 #[.int .i64 t.k,.string (str t.s),.int .i64 t.p,.slice Ab ss.length cb]) rfl (by simp[Value.oneCell'])
              ·rfl
              ·unfold maxLen;omega
              ·omega
              ·simp at hBw5 ⊢;omega
              intro A6 c6 w6 q1 q2 q3;have HAP:=Hd (rules_rel (o:=.cells #[.int .i64 t.k,.string (str t.s),.int .i64 t.p,.slice Ab ss.length cb] 208) HH.out HD5.out (by simp;omega) q1 q3);have hs6:=HH5.out.grown (o:=.cells #[.int .i64 t.k,.string (str t.s),.int .i64 t.p,.slice Ab ss.length cb] 208) (own_ge HRR.out) q3.1;obtain⟨_,_,_,cA,_,_⟩:=hs6.cells;have vA:=hs6.frozen 4;clear q1 q2 q3 hs6)
         all_goals go_wp2
         all_goals generalize hw7:World.setCell w6 ⟨rb,4,none⟩ (.slice A6 (rs.length+1) c6)=w7 at *
         all_goals clear cA vA e4 e5 x0 x1 x2 x3 hw7
         all_goals have HAD:=Hd HAP.out.drew
         all_goals obtain⟨_,_,_,_,e5,_⟩:=HAP.out.heads.stand.cells
         all_goals have x1:=HAP.out.blk.cell 1
         all_goals simp at x1
         all_goals have hlook:=lefts_look HAD.out.map HH.out.lefts HST.out
         all_goals have hcl:(rs.map fun r=>r.left.s).count t.s≤(rs.map fun r=>r.left.s).length:=List.count_le_length
         all_goals simp at hcl
         all_goals generalize hcnt:(rs.map fun r=>r.left.s).count t.s=n0 at *
         all_goals obtain⟨w8,hput,hm8,hg8⟩:=lefts_put HAD.out.map (by omega) HST.out (c:=n0) (by omega)
         all_goals have hsum:IntKind.i64.wrap ((n0:Int)+1)=(n0:Int)+1:=IntWalk.i64_in _ (by omega)
         all_goals have HM8:=Hd hm8
         all_goals have HG8:=Hd hg8
         all_goals have HCNT:=Hd hcnt
         all_goals clear hm8 hg8 hcnt
         all_goals go_region
         all_goals go_end0
         all_goals have hcnt:=HCNT.out
         all_goals subst hcnt
         all_goals obtain⟨g1,g2⟩:=Appended.last HH.out (by simp;omega) HAD.out HG8.out HM8.out
         all_goals refine⟨g2,?_⟩
         all_goals rw[HE.out]
         all_goals exact⟨rfl,_,_,_,rfl,g1⟩
       · have HW5:=Hd (HS.out.stand.wantNo 5 5 rfl h5)
         have HE:=Hd (one_no HK1.out HK3.out HLAST.out h5);clear h5;go_wp2_with (first
          | (go_at_call 118;(with_reducible refine HIS.out.mono ?_);rintro e w' ⟨rfl,hw'⟩;subst hw')
          | (go_at_call 169;refine HW5.out.mono ?_;rintro e w5 ⟨rfl,hb5⟩))
         refine⟨rfl,(HS.out.chg.mono (fun _ h=>.inl h)).next (.of_below hb5),?_⟩;rw[HE.out];exact Gives.of rfl rfl
  ·have HE:Hid (oneR (t::t2::r2)=.error (badT (t2::r2))):=Hd (by simp[oneR,h1,isK,h3])
   clear h h1 hend hne;go_enter Tryz.func121,Tryz.ntmps121
   go_wp2_with (first
    | (
      go_at_call 169;(with_reducible refine HW1.out.mono ?_);intro e w1 hx;obtain⟨rfl,hc1,hs1⟩:=hx
      have HC1:=Hd hc1;have hs1a:=hs1.chg ((Chg.refl (fun _=>False) w1).alloc (.cells #[.int .i64 t.k,.string (str t.s),.int .i64 t.p,.slice none 0 0] 208)) id (fun _ _=>id);have HW2:=Hd (hs1a.wantNo 3 3 rfl h3);clear hc1 hs1 hs1a)
    | (go_at_call 169;(with_reducible refine HW2.out.mono ?_);rintro e w2 ⟨rfl,hb2⟩))
   refine⟨rfl,((HC1.out.mono (fun _ h=>.inl h)).alloc _).next (.of_below hb2),?_⟩;rw[HE.out];exact Gives.of rfl rfl
 ·have HW1:=Hd (h.heads.stand.wantNo 1 1 rfl h1)
  have HE:Hid (oneR (t::r)=.error (badT (t::r))):=Hd (by simp[oneR,h1]);clear h h1;go_enter Tryz.func121,Tryz.ntmps121
  go_wp2_with (go_at_call 169;refine HW1.out.mono ?_;rintro e w1 ⟨rfl,hb1⟩)
  refine⟨rfl,.of_below hb1,?_⟩;rw[HE.out];exact Gives.of rfl rfl
theorem drop_mem(l:List Tk):∀u∈l.dropWhile symT,u∈l:=fun u hu=>(List.dropWhile_sublist symT).subset hu
theorem head_less{x x':Txt}{l l':List Tk}(h:headL x l=.ok (x',l')):l'.length<l.length∧∀u∈l',u∈l:=by
 cases l with
 | nil=>cases h
 | cons t r=>
  simp only[headL]at h;split at h
  ·split at h
   ·cases h
   ·injection h with h
    obtain⟨rfl,rfl⟩:=Prod.mk.inj h;have:=drop_le r;exact⟨by simp;omega,fun u hu=>List.mem_cons_of_mem _ (drop_mem r u hu)⟩
  split at h
  ·split at h
   ·injection h with h
    obtain⟨rfl,rfl⟩:=Prod.mk.inj h;exact⟨by simp;omega,fun u hu=>List.mem_cons_of_mem _ (List.mem_of_mem_drop hu)⟩
   ·cases h
  ·cases h
theorem sides_less(f:Nat):∀(a:List PS) (l:List Tk),(sidesL f a l).2.length≤l.length∧∀u∈(sidesL f a l).2,u∈l:=by
 induction f with
 | zero=>intro a l;exact⟨leR _,fun u h=>h⟩
 | succ f ih=>
  intro a l;unfold sidesL;split
  ·obtain⟨h1,h2⟩:=ih (a++[sideL (l.drop 1)]) ((l.drop 1).dropWhile symT)
   have:=drop_le (l.drop 1);have h3:(l.drop 1).length≤l.length:=by simp
   exact⟨by omega,fun u hu=>List.mem_of_mem_drop (drop_mem _ u (h2 u hu))⟩
  ·exact⟨leR _,fun u h=>h⟩
theorem one_less{r:PR}{l l':List Tk}(h:oneR l=.ok (r,l')):l'.length<l.length∧∀u∈l',u∈l:=by
 cases l with
 | nil=>cases h
 | cons t r=>
  simp only[oneR]at h;split at h
  ·cases h
  split at h
  ·split at h
   ·injection h with h
    obtain⟨rfl,rfl⟩:=Prod.mk.inj h;obtain⟨h1,h2⟩:=sides_less r.length [sideL (r.drop 1)] ((r.drop 1).dropWhile symT);have:=drop_le (r.drop 1);have h3:(r.drop 1).length≤r.length:=by simp
    refine⟨by rw[List.length_drop,List.length_cons];omega,fun u hu=>List.mem_cons_of_mem _ (List.mem_of_mem_drop (drop_mem _ u (h2 u (List.mem_of_mem_drop hu))))⟩
   ·cases h
  ·cases h
def HeadsTo(H:Except Flt (Txt×List Tk))(x:Txt)(l:List Tk):Prop:=∃f,l.length<f∧H=headsL f x l
theorem HeadsTo.step{H:Except Flt (Txt×List Tk)}{x x':Txt}{l l':List Tk}(h:HeadsTo H x l)(h6:isK 6 l=false)(he:headL x l=.ok (x',l')):HeadsTo H x' l':=by
 obtain⟨f,hf,h⟩:=h;have:=(head_less he).1;cases f with
 | zero=>omega
 | succ f=>exact⟨f,by omega,by rw[h,headsL,if_neg (by simp[h6])];simp[he]⟩
theorem HeadsTo.fail{H:Except Flt (Txt×List Tk)}{x:Txt}{l:List Tk}{e:Flt}(h:HeadsTo H x l)(h6:isK 6 l=false)(he:headL x l=.error e):H=.error e:=by
 obtain⟨f,hf,h⟩:=h;cases f with
 | zero=>omega
 | succ f=>rw[h,headsL,if_neg (by simp[h6])];simp[he]
theorem HeadsTo.last{H:Except Flt (Txt×List Tk)}{x:Txt}{l:List Tk}(h:HeadsTo H x l)(h6:isK 6 l=true):H=.ok (x,l.drop 1):=by
 obtain⟨f,hf,h⟩:=h;cases f with
 | zero=>omega
 | succ f=>rw[h,headsL,if_pos h6]
def MoreTo(H:Except Flt (List PR))(a:List PR)(l:List Tk):Prop:=∃f,l.length<f∧H=moreR f a l
theorem MoreTo.step{H:Except Flt (List PR)}{a:List PR}{r:PR}{l l':List Tk}(h:MoreTo H a l)(h0:isK 0 l=false)(he:oneR l=.ok (r,l')):MoreTo H (a++[r]) l':=by
 obtain⟨f,hf,h⟩:=h;have:=(one_less he).1;cases f with
 | zero=>omega
 | succ f=>exact⟨f,by omega,by rw[h,moreR,if_neg (by simp[h0])];simp[he]⟩
theorem MoreTo.fail{H:Except Flt (List PR)}{a:List PR}{l:List Tk}{e:Flt}(h:MoreTo H a l)(h0:isK 0 l=false)(he:oneR l=.error e):H=.error e:=by
 obtain⟨f,hf,h⟩:=h;cases f with
 | zero=>omega
 | succ f=>rw[h,moreR,if_neg (by simp[h0])];simp[he]
theorem MoreTo.last{H:Except Flt (List PR)}{a:List PR}{l:List Tk}(h:MoreTo H a l)(h0:isK 0 l=true):H=.ok a:=by
 obtain⟨f,hf,h⟩:=h;cases f with
 | zero=>omega
 | succ f=>rw[h,moreR,if_pos h0]
def FormEnd(w:World)(B rb mb:Nat)(tb:Option Nat)(l:List Tk)(e:Ending)(w':World):Prop:=
 Chg (fun k=>k=rb∨B≤k∨k=mb) w w'∧match formL l with
 | .ok y=>e=.returned (.tuple #[])∧∃l' dv kv sv rv rs D,rs.map GRu.r=y.rules∧Rules w' B rb mb tb l' y dv kv sv rv rs D
 | .error f=>Gives f e
theorem Rules.turn{w:World}{B rb mb:Nat}{tb:Option Nat}{l:List Tk}{x:Txt}{dv kv sv rv:Value}{rs:List GRu}{D:DataW Unit}(h:Rules w B rb mb tb l x dv kv sv rv rs D)(R:List PR):Rules w B rb mb tb l {x with rules:=R} dv kv sv rv rs D:=by obtain⟨⟨a1,a2,a3,a4,a5,a6,a7,a8,a9,a10,a11⟩,b2,b3,b4,b5,b6,b7,b8⟩:=h;exact⟨⟨a1,a2,a3,a4,a5,a6,a7,a8,a9,a10,a11⟩,b2,b3,b4,b5,b6,b7,b8⟩
set_option maxRecDepth 100000 in
set_option maxHeartbeats 3200000 in
theorem form_any{w:World}{B rb mb:Nat}{tb:Option Nat}{l:List Tk}(h:Heads w B rb (.slice none 0 0) (.map (some mb)) tb l ⟨[],[],[],[]⟩ (.slice none 0 0) (.slice none 0 0) (.slice none 0 0))(hm:w.ownsMap Tryz.prog 9 (plainElem Tryz.prog 3) mb 0 (.map []:DataW Unit))(hmB:mb<B)(hmr:mb≠rb)(hsh:∀u∈l,u.s.length≤8192):Calls Tryz.prog 68 #[.pointer (some ⟨rb,0,none⟩)] w (FormEnd w B rb mb tb l):=by
 have hlen:l.length≤100000:=by have:=h.ld;simp at this;omega
 have HH:=Hd h;have HSH:=Hd hsh;have HM:=Hd hm;clear h hsh hm;go_enter Tryz.func68,Tryz.ntmps68
 go_wp2;go_loopg [] l.length (fun n wr=>∃(x:Txt) (l':List Tk) (dv kv sv:Value),n=l'.length∧Hid (Heads wr B rb (.slice none 0 0) (.map (some mb)) tb l' x dv kv sv)∧Hid (Chg (fun k=>k=rb∨B≤k) w wr)∧Hid (HeadsTo (headsL (l.length+1) ⟨[],[],[],[]⟩ l) x l')∧Hid ((∀u∈l',u∈l)∧l'.length≤l.length))
 case atStart=>exact⟨⟨[],[],[],[]⟩,l,_,_,_,rfl,HH,Hd (Chg.refl _ _),Hd ⟨l.length+1,by omega,rfl⟩,Hd ⟨fun u h=>h,leR _⟩⟩
 case round=>
  obtain⟨x,l',dv,kv,sv,rfl,HR,HC,HT,HI⟩:=hrel;obtain⟨t,r,rfl⟩:=HR.out.stand.ended.cons;have HIS:=Hd (HR.out.stand.is 6 6 rfl);by_cases h6:t.k=6
  ·have hk:(t.k==6)=true:=by simp[h6]
   rw[hk]at HIS;have HLAST:=Hd (HT.out.last (by simpa [isK] using hk));have HTK:=Hd (HR.out.stand.take (by omega));clear hk h6;have HR1F:=Hd (fun(w1:World) (hc:Chg (·=rb) wr w1) (hs:Stand w1 rb dv kv sv (.slice none 0 0) (.map (some mb)) tb r)=>(⟨HR.out.chg hc (fun _ h=>h) hs (by simp),World.ownsRow_nil _ _ _ _,by simp,map_chg (map_chg HM.out HC.out (by omega)) hc hmr,Lefts.start,hmB,hmr,by have:=HI.out.2;simp at this ⊢;omega⟩:Rules w1 B rb mb tb r x dv kv sv (.slice none 0 0) [] (.map [])));have HSHR:=Hd (fun u (hu:u∈r)=>HSH.out u (HI.out.1 u (List.mem_cons_of_mem _ hu)));cases ho:oneR r with
   | error f=>
    have HE:=Hd ho;clear ho;go_wp2_with (first
     | (go_at_call 118;(with_reducible refine HIS.out.mono ?_);rintro e w' ⟨rfl,hw'⟩;subst hw')
     | (go_at_call 120;refine HTK.out.mono ?_;intro e w1 hx;obtain⟨rfl,hc1,hs1⟩:=hx;have HC1:=Hd hc1;have HRU:=Hd (readrule_any (HR1F.out _ hc1 hs1) HSHR.out);clear hc1 hs1)
     | (go_at_call 121;refine HRU.out.mono ?_;intro e w2 hx;obtain⟨hc2,hx⟩:=hx;rw[HE.out]at hx;have hx:e=_:=hx;subst hx))
    refine⟨rfl,(((HC.out.next (HC1.out.mono (fun _ h=>.inl h))).mono (fun i hi=>hi.imp id .inl)).next hc2),?_⟩;unfold formL;rw[HLAST.out];simp only[List.drop_succ_cons,List.drop_zero];rw[HE.out];exact Gives.of rfl rfl
   | ok p=>
    obtain⟨r1,l2⟩:=p;have HE:=Hd ho;clear ho;go_wp2_with (first
     | (go_at_call 118;(with_reducible refine HIS.out.mono ?_);rintro e w' ⟨rfl,hw'⟩;subst hw')
     | (go_at_call 120;refine HTK.out.mono ?_;intro e w1 hx;obtain⟨rfl,hc1,hs1⟩:=hx;have HC1:=Hd hc1;have HRU:=Hd (readrule_any (HR1F.out _ hc1 hs1) HSHR.out);clear hc1 hs1)
     | (
       go_at_call 121;refine HRU.out.mono ?_;intro e w2 hx;obtain⟨hc2,hx⟩:=hx;rw[HE.out]at hx;obtain⟨rfl,rv2,q2,D2,hq2,hr2⟩:=hx
       have HC2:=Hd ((((HC.out.next (HC1.out.mono (fun _ h=>.inl h))).mono (fun i hi=>hi.imp id .inl)).next hc2:Chg (fun k=>k=rb∨B≤k∨k=mb) w w2));have HQ2:=Hd hq2;have HR2:=Hd hr2;clear hc2 hq2 hr2))
    go_loopg [] l2.length (fun n wx=>∃(rv:Value) (rs:List GRu) (D:DataW Unit) (l3:List Tk),n=l3.length∧Hid (Rules wx B rb mb tb l3 x dv kv sv rv rs D)∧Hid (Chg (fun k=>k=rb∨B≤k∨k=mb) w wx)∧Hid (MoreTo (moreR (l.length+1) [r1] l2) (rs.map GRu.r) l3)∧Hid (∀u∈l3,u∈l))
    case atStart=>exact⟨rv2,[q2],D2,l2,rfl,HR2,HC2,Hd ⟨l.length+1,by have:=(one_less HE.out).1;have:=HI.out.2;simp at this;omega,by rw[←HQ2.out];rfl⟩,Hd (fun u hu=>HI.out.1 u (List.mem_cons_of_mem _ ((one_less HE.out).2 u hu)))⟩
    case round=>
     obtain⟨rv,rs,D,l3,rfl,HR3,HC3,HT3,HI3⟩:=hrel;obtain⟨t3,r3,rfl⟩:=HR3.out.heads.stand.ended.cons;have HIS3:=Hd (HR3.out.heads.stand.is 0 0 rfl);have HRU3:=Hd (readrule_any HR3.out (fun u hu=>HSH.out u (HI3.out u hu)));have HFORM:Hid (∀a,moreR (l.length+1) [r1] l2=.ok a→formL l=.ok {x with rules:=a}):=Hd (fun a ha=>by unfold formL;rw[HLAST.out];simp only[List.drop_succ_cons,List.drop_zero];rw[HE.out];simp only;rw[ha])
     have HFORME:Hid (∀f,moreR (l.length+1) [r1] l2=.error f→formL l=.error f):=Hd (fun f ha=>by unfold formL;rw[HLAST.out];simp only[List.drop_succ_cons,List.drop_zero];rw[HE.out];simp only;rw[ha])
     by_cases h0:t3.k=0
     ·have hk:(t3.k==0)=true:=by simp[h0]
      rw[hk]at HIS3;have HL3:=Hd (HT3.out.last (by simpa [isK] using hk));clear hk h0;go_wp2_with (go_at_call 118;(with_reducible refine HIS3.out.mono ?_);rintro e w' ⟨rfl,hw'⟩;subst hw')
      go_end0
      refine⟨HC3.out,?_⟩;rw[HFORM.out _ HL3.out];exact⟨rfl,_,_,_,_,_,_,_,rfl,HR3.out.turn _⟩
     ·have hk:(t3.k==0)=false:=by simp[h0]
      rw[hk]at HIS3;have HK:=Hd (show isK 0 (t3::r3)=false by simpa [isK] using hk);clear hk h0;cases ho3:oneR (t3::r3) with
      | error f=>
        have HE3:=Hd ho3;clear ho3;go_wp2_with (first
         | (go_at_call 118;(with_reducible refine HIS3.out.mono ?_);rintro e w' ⟨rfl,hw'⟩;subst hw')
         | (go_at_call 121;refine HRU3.out.mono ?_;intro e w4 hx;obtain⟨hc4,hx⟩:=hx;rw[HE3.out]at hx;have hx:e=_:=hx;subst hx))
        refine⟨rfl,HC3.out.next hc4,?_⟩;rw[HFORME.out _ (HT3.out.fail HK.out HE3.out)];exact Gives.of rfl rfl
      | ok p=>
        obtain⟨r4,l4⟩:=p;have HE3:=Hd ho3;clear ho3;go_wp2_with (first
         | (go_at_call 118;(with_reducible refine HIS3.out.mono ?_);rintro e w' ⟨rfl,hw'⟩;subst hw')
         | (go_at_call 121;refine HRU3.out.mono ?_;intro e w4 hx;obtain⟨hc4,hx⟩:=hx;rw[HE3.out]at hx;obtain⟨rfl,rv4,q4,D4,hq4,hr4⟩:=hx;have HC4:=Hd hc4;have HQ4:=Hd hq4;have HR4:=Hd hr4;clear hc4 hq4 hr4))
        have hless:=(one_less HE3.out).1
        go_roundg l4.length
        case measure=>exact hless
        case rel=>exact⟨rv4,rs++[q4],D4,l4,rfl,HR4,Hd (HC3.out.next HC4.out),Hd (by have h:=HT3.out.step HK.out HE3.out;rw[←HQ4.out]at h;rw[mpA];exact h),Hd (fun u hu=>HI3.out u ((one_less HE3.out).2 u hu))⟩
  ·have hk:(t.k==6)=false:=by simp[h6]
   rw[hk]at HIS;have HK:=Hd (show isK 6 (t::r)=false by simpa [isK] using hk);have HHD:=Hd (head_any HR.out);clear hk h6;cases he:headL x (t::r) with
   | error f=>
    have HE:=Hd he;clear he;go_wp2_with (first
     | (go_at_call 118;refine HIS.out.mono ?_;rintro e w' ⟨rfl,hw'⟩;subst hw')
     | (go_at_call 119;refine HHD.out.mono ?_;intro e w1 hx;obtain⟨hc,hx⟩:=hx;rw[HE.out]at hx;have hx:e=_:=hx;subst hx))
    refine⟨rfl,(HC.out.next hc).mono (fun i hi=>hi.imp id .inl),?_⟩;unfold formL;rw[HT.out.fail HK.out HE.out];exact Gives.of rfl rfl
   | ok p=>
    obtain⟨x2,l2⟩:=p;have HE:=Hd he;clear he;go_wp2_with (first
     | (go_at_call 118;refine HIS.out.mono ?_;rintro e w' ⟨rfl,hw'⟩;subst hw')
     | (go_at_call 119;refine HHD.out.mono ?_;intro e w1 hx;obtain⟨hc,hx⟩:=hx;rw[HE.out]at hx;obtain⟨rfl,dv2,kv2,sv2,hh2⟩:=hx;have HC2:=Hd hc;have HH2:=Hd hh2;clear hc hh2))
    have hless:=(head_less HE.out).1
    go_roundg l2.length
    case measure=>exact hless
    case rel=>exact⟨x2,l2,dv2,kv2,sv2,rfl,HH2,Hd (HC.out.next HC2.out),Hd (HT.out.step HK.out HE.out),Hd ⟨fun u hu=>HI.out.1 u ((head_less HE.out).2 u hu),by have:=HI.out.2;omega⟩⟩
end Go.Proofs.YthaacmablcpdfaaGreatDoor
namespace Go.Proofs.YthaacmablcpdfaaGreatDoor
open Go.RowKit
set_option linter.unusedVariables false
def opersL:List (List UInt8):=[[],[38,38],[124,124],[59,59],[59],[38],[124],[40],[41],[60],[62],[62,62],[60,60],[60,60,45],[60,38],[62,38],[60,62],[62,124]]
def wordsL:List (List UInt8):=[[105,102],[116,104,101,110],[101,108,115,101],[101,108,105,102],[102,105],[100,111],[100,111,110,101],[99,97,115,101],[101,115,97,99],[119,104,105,108,101],[117,110,116,105,108],[102,111,114],[123],[125],[33],[105,110]]
def bs(l:List UInt8):ByteArray:=⟨l.toArray⟩
def HasTabs(w:World):Prop:=(∀k (h:k<opersL.length),w.cell? ⟨1,k,none⟩=some (.string (bs opersL[k])))∧(∀k (h:k<wordsL.length),w.cell? ⟨0,k,none⟩=some (.string (bs wordsL[k])))
theorem HasTabs.later{w w':World}(h:HasTabs w)(hb:Below w.heap.size w w'):HasTabs w':=
 ⟨fun k hk=>(hb.cell (p:=⟨1,k,none⟩) (World.block_lt_of_cell? w _ (h.1 k hk))).trans (h.1 k hk),fun k hk=>(hb.cell (p:=⟨0,k,none⟩) (World.block_lt_of_cell? w _ (h.2 k hk))).trans (h.2 k hk)⟩
def opT(op:Int):ByteArray:=if op<0 then bs [] else bs (opersL.getD op.toNat [])
theorem opText_any(op:Int){w:World}(h:HasTabs w):Calls Tryz.prog 71 #[.int .i64 op] w fun e w'=>e=.returned (.string (opT op))∧w=w':=by
 unfold opT;by_cases h0:op<0
 ·rw[if_pos h0]
  go_enter Tryz.func71,Tryz.ntmps71
  go_wp2;go_ret;exact⟨rfl,rfl⟩
 ·rw[if_neg h0]
  obtain⟨k,rfl⟩:∃k:Nat,op=k:=⟨op.toNat,by omega⟩
  by_cases h1:18≤k
  ·have q1:(18:Int)≤(k:Int):=by omega
   have hd:opersL.getD (k:Int).toNat []=[]:=by rw[dG,nG (by simp[opersL];omega)];rfl
   rw[hd];go_enter Tryz.func71,Tryz.ntmps71
   go_wp2;go_ret;exact⟨rfl,rfl⟩
  ·have q1:¬(18:Int)≤(k:Int):=by omega
   have q2:(k:Int)<18:=by omega
   have hk:k<opersL.length:=by show k<18;omega
   have hc:=h.1 k hk;have hd:opersL.getD (k:Int).toNat []=opersL[k]:=by rw[dG,Int.toNat_natCast,eG hk];rfl
   rw[hd];generalize bs opersL[k]=t at *;go_enter Tryz.func71,Tryz.ntmps71
   go_wp2;go_ret;exact⟨rfl,rfl⟩
def opI(op:Int):Int:=if 1≤op∧op≤17 then 5+op else 0
theorem opT_empty(op:Int):(opT op).toList.isEmpty=!decide (1≤op∧op≤17):=by
 rw[Lib.toList_data];unfold opT;by_cases h0:op<0
 ·rw[if_pos h0,decide_eq_false (by omega)];rfl
 ·rw[if_neg h0]
  obtain⟨k,rfl⟩:∃k:Nat,op=k:=⟨op.toNat,by omega⟩
  by_cases h1:18≤k
  ·rw[dG,nG (by simp[opersL];omega),decide_eq_false (by omega)]
   rfl
  ·have this:(List.range 18).all (fun j:Nat=>(bs (opersL.getD (j:Int).toNat [])).data.toList.isEmpty==!decide (1≤(j:Int)∧(j:Int)≤17))=true:=by decide +kernel
   exact beq_iff_eq.1 (List.all_eq_true.1 this k (List.mem_range.2 (by omega)))
theorem pOp_any(op:Int){w:World}(h:HasTabs w):Calls Tryz.prog 32 #[.int .i64 op] w fun e w'=>e=.returned (.int .i64 (opI op))∧w=w':=by
 have HO:=Hd (opText_any op h);have he:=opT_empty op;unfold opI;generalize opT op=t at *;by_cases h1:1≤op∧op≤17
 ·rw[if_pos h1]
  rw[decide_eq_true h1]at he;obtain⟨a,b⟩:=h1;go_enter Tryz.func32,Tryz.ntmps32
  go_wp2_with (go_at_call 71;refine HO.out.mono ?_;rintro e w' ⟨rfl,rfl⟩)
  go_ret;exact⟨rfl,rfl⟩
 ·rw[if_neg h1]
  rw[decide_eq_false h1]at he;clear h1;go_enter Tryz.func32,Tryz.ntmps32
  go_wp2_with (go_at_call 71;refine HO.out.mono ?_;rintro e w' ⟨rfl,rfl⟩)
  go_ret;exact⟨rfl,rfl⟩
def resI(s:ByteArray):Int:=if wordsL.findIdx (fun l=>(bs l).toList==s.toList)<16 then 23+(wordsL.findIdx (fun l=>(bs l).toList==s.toList):Nat) else 0
set_option maxHeartbeats 800000 in
theorem pRes_any(s:ByteArray){w:World}(h:HasTabs w):Calls Tryz.prog 33 #[.string s] w fun e w'=>e=.returned (.int .i64 (resI s))∧w=w':=by
 have HC:=Hd h.2;clear h;go_enter Tryz.func33,Tryz.ntmps33
 go_wp2
 go_loop [4] (fun i=>∃k:Nat,k≤16∧i=.int .i64 k∧Hid (∀j (hj:j<wordsL.length),j<k→((bs wordsL[j]).toList==s.toList)=false)) (fun i=>16-(intOf i).toNat)
 case atStart=>exact⟨0,by omega,rfl,Hd (fun j hj h=>absurd h (Nat.not_lt_zero _))⟩
 case round=>
  obtain⟨k,hk,rfl,HS⟩:=hrel;by_cases hlt:k<16
  ·have hkl:k<wordsL.length:=hlt
   have hc:=HC.out k hkl;cases hb:((bs wordsL[k]).toList==s.toList) with
   | true=>
    have HN:Hid (resI s=23+(k:Int)):=Hd (by
     have hf:wordsL.findIdx (fun l=>(bs l).toList==s.toList)=k:=by rw[List.findIdx_eq hkl];exact⟨hb,fun j hj=>HS.out j (by omega) hj⟩
     unfold resI;rw[hf,if_pos hlt])
    generalize bs wordsL[k]=t at *;go_wp2;go_ret;rw[HN.out];exact⟨rfl,rfl⟩
   | false=>
    have HN:Hid (∀j (hj:j<wordsL.length),j<k+1→((bs wordsL[j]).toList==s.toList)=false):=Hd (fun j hj h=>by
     rcases Nat.lt_or_ge j k with h1|h1
     ·exact HS.out j hj h1
     ·obtain rfl:j=k:=by omega
      exact hb)
    generalize bs wordsL[k]=t at *;go_wp2
    go_round
    case rel=>exact⟨k+1,by omega,by go_num,HN⟩
    case measure=>simp[intOf];omega
  ·have HN:Hid (resI s=0):=Hd (by
    have hf:wordsL.findIdx (fun l=>(bs l).toList==s.toList)=wordsL.length:=by rw[List.findIdx_eq_length];intro x hx;obtain⟨j,hj,rfl⟩:=List.getElem_of_mem hx;exact HS.out j hj (by have:wordsL.length=16:=rfl;omega)
    unfold resI;rw[hf,if_neg (by decide)])
   obtain rfl:k=16:=by omega
   go_wp2;go_ret;rw[HN.out];exact⟨rfl,rfl⟩
def spT(t:Int):ByteArray:=if t=1 then⟨#[39,39]⟩ else if t=2 then⟨#[120,61]⟩ else if t=3 then⟨#[120]⟩ else if t=4 then⟨#[49]⟩ else if t=5 then⟨#[10]⟩ else
 if 23≤t∧t≤38 then bs (wordsL.getD (t-23).toNat []) else if 5<t∧t<23 then opT (t-5) else⟨#[]⟩
set_option maxHeartbeats 1600000 in
theorem pSpell_any(t:Int)(h1 : -9223372036854775808≤t){w:World}(h:HasTabs w):Calls Tryz.prog 34 #[.int .i64 t] w fun e w'=>e=.returned (.string (spT t))∧w=w':=by
 have HO:=Hd (opText_any (t-5) h);have HC:=Hd h.2;clear h;unfold spT;by_cases e1:t=1
 ·subst e1
  go_enter Tryz.func34,Tryz.ntmps34
  go_wp2;go_ret;exact⟨rfl,rfl⟩
 by_cases e2:t=2
 ·subst e2
  go_enter Tryz.func34,Tryz.ntmps34
  go_wp2;go_ret;exact⟨rfl,rfl⟩
 by_cases e3:t=3
 ·subst e3
  go_enter Tryz.func34,Tryz.ntmps34
  go_wp2;go_ret;exact⟨rfl,rfl⟩
 by_cases e4:t=4
 ·subst e4
  go_enter Tryz.func34,Tryz.ntmps34
  go_wp2;go_ret;exact⟨rfl,rfl⟩
 by_cases e5:t=5
 ·subst e5
  go_enter Tryz.func34,Tryz.ntmps34
  go_wp2;go_ret;exact⟨rfl,rfl⟩
 rw[if_neg e1,if_neg e2,if_neg e3,if_neg e4,if_neg e5];have q1:(t==1)=false:=bN.2 e1;have q2:(t==2)=false:=bN.2 e2;have q3:(t==3)=false:=bN.2 e3;have q4:(t==4)=false:=bN.2 e4;have q5:(t==5)=false:=bN.2 e5;clear e1 e2 e3 e4 e5;by_cases hw:23≤t∧t≤38
 ·rw[if_pos hw]
  obtain⟨a,b⟩:=hw;obtain⟨k,rfl⟩:∃k:Nat,t=(k:Int)+23:=⟨(t-23).toNat,by omega⟩
  have hk:k<wordsL.length:=by show k<16;omega
  have hc:=HC.out k hk;have hd:wordsL.getD ((k:Int)+23-23).toNat []=wordsL[k]:=by rw[show ((k:Int)+23-23).toNat=k by omega,dG,eG hk];rfl
  rw[hd];generalize bs wordsL[k]=x at *;have hk':k<16:=hk;have hs:(k:Int)+23-23=(k:Int):=by omega
  go_enter Tryz.func34,Tryz.ntmps34
  go_wp2;go_ret;exact⟨rfl,rfl⟩
 rw[if_neg hw];by_cases ho:5<t∧t<23
 ·rw[if_pos ho]
  obtain⟨a,b⟩:=ho;have c:¬23≤t:=by omega
  clear hw;go_enter Tryz.func34,Tryz.ntmps34
  go_wp2_with (go_at_call 71;refine HO.out.mono ?_;rintro e w' ⟨rfl,rfl⟩)
  go_ret;exact⟨rfl,rfl⟩
 rw[if_neg ho];rcases Int.lt_or_le 38 t with c|c
 ·have c2:¬t≤38:=by omega
  have c3:23≤t:=by omega
  have c4:¬t<23:=by omega
  have c5:5<t:=by omega
  clear hw ho;go_enter Tryz.func34,Tryz.ntmps34
  go_wp2;go_ret;exact⟨rfl,rfl⟩
 ·have c2:¬23≤t:=by omega
  have c5:¬5<t:=by omega
  clear hw ho;go_enter Tryz.func34,Tryz.ntmps34
  go_wp2;go_ret;exact⟨rfl,rfl⟩
theorem tab_of_reads{n:String}{g T:Nat}{L:List (List UInt8)}{W:World}(hr:Lib.VarReads Tryz.prog W n (.agg (L.map fun l=>.lit (.string l))))(hg:Tryz.prog.globalNamed n=some g)
  (ht:(Tryz.prog.globals[g]?).map (·.type)=some T) (hu:Tryz.prog.underlying T=some (.array L.length 9)) (hc:Tryz.prog.cellsOf 9=1):∀k (h:k<L.length),W.cell? ⟨g,k,none⟩=some (.string (bs L[k])):=by
 intro k hk;obtain⟨g',t',cs,fuel,p,e1,e2,e3,e4⟩:=hr;obtain rfl:g=g':=Option.some.inj (hg.symm.trans e1);obtain rfl:T=t':=Option.some.inj (ht.symm.trans e2);obtain⟨fuel',d,q,hd,ht'⟩:=Lib.array_elem hu e4 k hk;rw[hc,Nat.mul_one]at ht';obtain⟨s,hs,hx,_⟩:=DataW.trod_string Tryz.underlying9 ht';have hd':d=.lit (.string L[k]):=by rw[pG,eG hk]at hd;exact(Option.some.inj hd).symm
 have hs2:s=bs L[k]:=by rw[hd']at hx;have h1:L[k]=s.data.toList:=Lit.string.inj (DataW.lit.inj (congrArg Prod.fst hx));unfold bs;rw[h1,Array.toArray_toList]
 have hc0:=World.var?_cell hg e3 k;rw[hc0,←hs2];have:cs.toList[k]?=some (.string s):=by have:=congrArg (·[0]?) hs;simpa using this
 simpa using this
theorem tabs_of_laid{W:World}{l:List (String×DataW Unit)}(hl:l=[("conch/oper.texts",.agg (opersL.map fun l=>.lit (.string l))),("conch/posix.reserved",.agg (wordsL.map fun l=>.lit (.string l)))])(h:laidMetH Tryz.prog l W):HasTabs W:=by subst hl;have h':laidMet Tryz.prog [("conch/oper.texts",.agg (opersL.map fun l=>.lit (.string l))),("conch/posix.reserved",.agg (wordsL.map fun l=>.lit (.string l)))] W:=h;exact⟨tab_of_reads (T:=214) (Lib.laidMet.reads h' (.head _)) (by kernel_rfl) (by kernel_rfl) (by kernel_rfl) (by kernel_rfl),tab_of_reads (T:=145) (Lib.laidMet.reads h' (.tail _ (.head _))) (by kernel_rfl) (by kernel_rfl) (by kernel_rfl) (by kernel_rfl)⟩
end Go.Proofs.YthaacmablcpdfaaGreatDoor
namespace Go.Proofs.YthaacmablcpdfaaGreatDoor
open Go.ChangeShapes Go.WideShapes Go.ChangeAt Go.RowKit
set_option linter.unusedVariables false
section
variable {H:Type} {enc:TypeId×Value→H} {P:Program}
theorem trodAll_stays(hl:laidOutB P=true){W W':World}(hb:Below W.heap.size W W')(sp:Nat→Bool) :
  ∀(ts:List TypeId) (vs:List Value) (ds:List (DataW H)) (ps:List MemPlace),(∀t∈ts,P.readableRec t=true∧t<P.types.size) →
   DataW.TrodAll enc P W 0 (fun _=>true) true ts vs ds ps→(∀p∈ps,p.block<W.heap.size)→(∀p∈ps,sp p.block=true)→DataW.TrodAll enc P W' 0 sp true ts vs ds ps
 | [],[],[],ps,_,h,_,_=>h
 | t::ts,v::vs,d::ds,ps,hr,h,hlt,hs=>by
  obtain⟨p,q,h1,h2,rfl⟩:=h;have hr0:=hr t (by simp);exact⟨p,q,WideElems.Trod_stays hl hr0.1 hr0.2 h1 (fun x hx=>hb.same (hlt x (by simp[hx]))) (fun x hx=>hs x (by simp[hx])),
   trodAll_stays hl hb sp ts vs ds q (fun t ht=>hr t (by simp[ht])) h2 (fun x hx=>hlt x (by simp[hx])) (fun x hx=>hs x (by simp[hx])),rfl⟩
 | [],[],_::_,_,_,h,_,_=>h.elim
 | [],_::_,_,_,_,h,_,_=>h.elim
 | _::_,[],_,_,_,h,_,_=>h.elim
 | _::_,_::_,[],_,_,h,_,_=>h.elim
theorem law_post{f:Func}{s:ChangeSpec}{apart fresh handsOn again:Bool}{W W':World}{args:Array Value}{ds gs:List (DataW H)}{before:List MemPlace}
  (hW:DataW.Whole enc P f.params.toList s.vars apart W args.toList ds gs before) (hv:s.vars=[])
  (hsp:s.fn H (ds++gs)={results:=[.lit (.bool true)],args:=ds}) {tb:TypeId} (hrt:f.resultTypes=#[tb]) (htb:P.underlying tb=some .bool)
  (hl:laidOutB P=true) (hr:∀t∈f.params.toList,P.readableRec t=true∧t<P.types.size) (hb:Below W.heap.size W W')
  (hok:∀(j:Nat) (t:TypeId) (r:Value),f.resultTypes[j]?=some t→((Value.bool true).resultList f.resultTypes.size)[j]?=some r→Value.okWide P W' .any 0 t r) :
  s.post enc P f apart fresh handsOn again W args (.bool true) W':=by
 have hlt:∀p∈before,p.block<W.heap.size:=fun p hp=>hW.lt p hp
 have hres:∀(b:Nat) (sp:Nat→Bool) (hd:Bool),DataW.TrodAll enc P W' b sp hd f.resultTypes.toList ((Value.bool true).resultList f.resultTypes.size) (s.fn H (ds++gs)).results []:=by intro b sp hd;rw[hsp,hrt];exact trodAll_mk1 (shut_bool htb true)
 have hW0:=hW;obtain⟨p,q,hA,hV,rfl,hz,hn⟩:=hW;rw[hv]at hV;obtain⟨rfl,rfl⟩:=trodVars_none hV;simp only[List.append_nil]at *;have hargs:∀sp:Nat→Bool,(∀x∈p,sp x.block=true)→DataW.TrodAll enc P W' 0 sp true f.params.toList args.toList (s.fn H ds).args p:=by intro sp hs;rw[hsp];exact trodAll_stays hl hb sp _ _ _ _ hr hA hlt hs
 have hvs:∀sp:Nat→Bool,DataW.TrodVars enc P W' sp s.vars (s.fn H ds).vars []:=by intro sp;rw[hsp,hv];exact rfl
 refine⟨ds,[],p,[],p,[],hW0,by simpa using hres _ _ _,by simpa using hargs _ (fun x hx=>by simpa using hlt x hx),by simpa using hvs _,World.keptBut_mono (fun x hx=>⟨hx,?_⟩) (hb.frame (·∈p)),fun _=>?_⟩
 ·exact Or.inr (by simpa using hx)
 ·have hh:=trodAll_append (hargs (fun _=>true) (fun _ _=>rfl)) (hres 0 (fun _=>true) true)
  refine⟨hok,_,(s.fn H ds).vars,[]++p,⟨[]++p,[],hh,hvs _,by simp,?_,?_⟩,?_⟩
  ·intro b off hp
   have hin:MemPlace.cell b off∈p:=by simpa using hp
   rw[hb.frozen (hlt _ hin)];exact hz b off hin
  ·intro ha
   simpa using hn ha
  ·intro x hx _
   simpa using hx
end
end Go.Proofs.YthaacmablcpdfaaGreatDoor
