/- PosixClean. -/
import Derived.Test.YthaacmablcpdfaaGreatDoorYbd
import Derived.Test.YthaacmablcpdfaaGreatDoorYbe
import Derived.Test.YthaacmablcpdfaaGreatDoorYac
import Derived.Test.YthaacmablcpdfaaGreatDoorTie
import Derived.Test.YthaacmablcpdfaaGreatDoorCards
import Derived.ChangeMaps5
import Derived.HandedShaped
import Derived.Shelf.Vars
import Derived.LaidLaws
import Derived.LaidHandle
import Derived.Stop.Joined
import Derived.SevenTiedAt
import Derived.ProofKit
import Derived.Handy
import Derived.Lay
set_option linter.unusedVariables false
set_option maxRecDepth 100000
set_option maxHeartbeats 16000000
namespace Go.Proofs.YthaacmablcpdfaaGreatDoor
open Go.RowKit
section
open Go.ChangeShapes Go.WideShapes Go.ChangeAt Go.RowKit
theorem Wx{w:World}(h:w.ShapedOpen Tryz.prog):Gk w:=
 Go.Proofs.cell_of_shapedOpen_int (zero:=#[.int .i64 0]) (t:=3) h (of_decide_eq_true (by kernel_rfl)) (by kernel_rfl) rfl (by kernel_rfl) (by kernel_rfl) Tryz.underlying3
theorem X7:ownKnob Tryz.prog.godebug=none:=by kernel_rfl
theorem UB:laidOutB Tryz.prog=true:=by kernel_rfl
theorem eK{H:Type}{enc:TypeId×Value->H}{a:Assume}{C:Checked}{os:Os}{f:FuncId}{fn:Func}{s:ChangeSpec}{R:List PathCond}{apart fresh T P:Bool}{X:World->Array Value->Prop}
  (hX:∀(w w':World) (args:Array Value),w.heap=w'.heap->X w args->X w' args)
  (own:ownKnob C.prog.godebug=none) (a9:os.Started) (a8:C.prog.inits.idxOf? f=none) (a1:C.prog.funcs[f]?=some fn)
  (aa:∃(w:World) (l:Tape) (i:Input),w.os=os/\(w.forCall l i).Shaped C.prog/\i.vars=[]/\Input.okWide C.prog (w.forCall l i) .any w.heap.size f i /\
   ((s.pre enc C.prog fn R apart (w.forCall l i).memory i.args/\X (w.forCall l i).memory i.args)/\sizedMet enc C.prog fn (OpenSpec.ofChange s) apart (w.forCall l i).memory i.args)/\a.holds C.prog (lone (Frame.enter C.prog f i.args .normal) [] (w.forCall l i)))
  (U:∀(W:World) (base:Nat) (args:Array Value) (p I:List (DataW H)) (o:List MemPlace),
   (∀(j:Nat) t v,fn.params[j]?=some t->args[j]?=some v->Value.okWide C.prog W .any base t v) ->
   DataW.Whole enc C.prog fn.params.toList s.vars apart W args.toList p I o->W.ShapedOpen C.prog->X W args ->
   Calls C.prog f args W fun e J=>∃v,e=.returned v/\s.post enc C.prog fn apart fresh T P W args v J) :
  ReturnsInHanded a C os f .any (fun w args=>(s.pre enc C.prog fn R apart w args/\X w args)/\sizedMet enc C.prog fn (OpenSpec.ofChange s) apart w args) (s.post enc C.prog fn apart fresh T P):=by
 refine returnsInHanded_of_calls own a9 a8 aa ?_;intro w l i _ a5 _ a3 a4 _;obtain⟨_,_,_,a0,a2,_,_,_,_,a6⟩:=a3;have e:a0=fn:=Option.some.inj (a2.symm.trans a1);subst e;obtain⟨⟨⟨p,I,o,hw,hc⟩,hx⟩,hz⟩:=a4;have a7:=DataW.Whole.of_heap (w':=w.forCall l i) (by rfl) hw;refine(U (w.forCall l i) w.heap.size i.args p I o a6 a7 a5 (hX _ _ _ (by rfl) hx)).mono fun e J ⟨v,he,hp⟩=>?_
 subst he;exact ChangeSpec.post_blind hp
theorem XC(os:Os)(a2:os.Started)(H:Type)(enc:TypeId×Value->H) :
  ReturnsInHanded {} Tryz.checked os 4 .any (fun w args=>(Rows.posixCleanSpec.pre enc Tryz.prog Tryz.f4 Rows.posixCleanRow.domain false w args/\laidMetH Tryz.prog Rows.posixCleanRow.laid w)/\sizedMet enc Tryz.prog Tryz.f4 (OpenSpec.ofChange Rows.posixCleanSpec) false w args)
   (Rows.posixCleanSpec.post enc Tryz.prog Tryz.f4 false true false false):=by
 refine eK (C:=Tryz.checked) (X:=fun w _=>laidMetH Tryz.prog Rows.posixCleanRow.laid w) (fun _ _ _ R h=>h.of_heap R) X7 a2 (by kernel_rfl) Tryz.func4
  (ChangeSpec.witness_shaped (enc:=enc) (C:=Tryz.checked) (os:=os) (X:=fun w _=>laidMetH Tryz.prog Rows.posixCleanRow.laid w) false (World.laidAll Tryz.prog os Rows.posixCleanRow.laid) #[] 8 (World.laidAll_os _ _ _)
   (World.shaped_of_ZipB (by kernel_rfl) (by kernel_rfl)) (by kernel_rfl) (by kernel_rfl) (by kernel_rfl)
   (by rw[MakeChecks.laidMetH_plain _ _ _ (by kernel_rfl)];exact laidMet_laidAll _ (by kernel_rfl) (by kernel_rfl))) ?_
 intro W base args o gs a3 a0 l T C;have U:∀(j:Nat) t v,Tryz.f4.params[j]?=some t->args[j]?=some v->Value.okWide Tryz.prog W .any base t v:=a0;have I:=l;obtain⟨a1,q,p,hV,rfl,a4,a5⟩:=l;have i:DataW.TrodAll enc Tryz.prog W 0 (fun _=>true) true Tryz.f4.params.toList args.toList o a1:=p;rw[Tryz.params4]at i U;obtain⟨rfl,rfl,rfl⟩:=trodAll_none i;obtain⟨rfl,rfl⟩:=trodVars_none hV;refine(gP (Wx T) (dC rfl C)).mono fun e W' ⟨P,J⟩=>?_
 subst P;exact⟨_,rfl,bC I rfl rfl rfl Tryz.underlying4 UB (by decide +kernel) J (ok_one (by kernel_rfl) rfl (okWide_bool_mk Tryz.underlying4 _))⟩
theorem Xi:Rows.PosixCleanSaid:=
 OpenClaim.holds_of_wide 4 Tryz.f4 rfl rfl rfl rfl rfl rfl rfl ⟨rfl,rfl,rfl,rfl,rfl⟩ rfl rfl rfl rfl rfl (by kernel_rfl) Tryz.func4 (by kernel_rfl)
  (of_decide_eq_true (by kernel_rfl)) (by unfold Func.isWrapper;first|(rw[if_pos (by decide +kernel)];kernel_rfl)|(rw[if_neg (by decide +kernel)];exact⟨rfl,rfl⟩))
  (fun j l H i _=>XC j l H i)
theorem clean_holds:Rows.PosixCleanCardSaid:=
 Claim7.holds_tied_plain_at .later [] [.data,.data] true _ true
  Xi (fun _ h=>by cases h) (by kernel_rfl) (fun _ h=>by cases h) posixClean_row_tie rfl ⟨rfl,rfl⟩ (by kernel_rfl) rfl
  (fun f fn l o=>by obtain rfl:f=4:=Option.some.inj ((show Tryz.prog.funcNamed "conch/conchlaw30.PosixClean"=some 4 by kernel_rfl).symm.trans l) |>.symm;obtain rfl:fn=Tryz.f4:=(Option.some.inj (Tryz.func4.symm.trans o)).symm;exact⟨by kernel_rfl,fun j t i=>by rw[Tryz.params4]at i;simp at i⟩)
  (by kernel_rfl)
#print axioms clean_holds
end
end Go.Proofs.YthaacmablcpdfaaGreatDoor
