/- RuleNone: where there is no engine, or no machine, rule answers as the document says, for any token and any text. Conditions: none but what the card itself lays. -/
import Derived.Test.YtlogpnoioimhjaaGreatDoorXcg
set_option linter.all false
set_option maxRecDepth 100000
set_option maxHeartbeats 16000000
namespace Go.Proofs.YtlogpnoioimhjaaGreatDoor
open Go.RowKit
section
open Go.ChangeShapes Go.WideShapes Go.ChangeAt Go.RowKit
open Go.ChangeMaps (open_string)
def ZV:ownKnob Tryz.prog.godebug=none:=by kernel_rfl
def Zo:laidOutB Tryz.prog=true:=by kernel_rfl
def XV(os:Os)(started:os.Started)(H:Type)(enc:TypeId×Value->H) :
  ReturnsInHanded {} Tryz.checked os 3 .any (fun w args=>(Rows.ruleNoneSpec.pre enc Tryz.prog Tryz.f3 Rows.ruleNoneRow.domain false w args/\laidMetH Tryz.prog Rows.ruleNoneRow.laid w)/\sizedMet enc Tryz.prog Tryz.f3 (OpenSpec.ofChange Rows.ruleNoneSpec) false w args)
   (Rows.ruleNoneSpec.post enc Tryz.prog Tryz.f3 false true false false):=by
 refine UO (C:=Tryz.checked) (X:=fun w _=>laidMetH Tryz.prog Rows.ruleNoneRow.laid w) (fun _ _ _ hh h=>h.of_heap hh) ZV started (by kernel_rfl) Tryz.func3
  (ChangeSpec.witness_shaped (enc:=enc) (C:=Tryz.checked) (os:=os) (X:=fun w _=>laidMetH Tryz.prog Rows.ruleNoneRow.laid w) false (World.laidAll Tryz.prog os Rows.ruleNoneRow.laid) #[.agg #[.int .i64 0,.int .i64 0,.slice none 0 0,.string ByteArray.empty],.string ByteArray.empty] 8 (World.laidAll_os _ _ _)
   (World.shaped_of_ZipB (by kernel_rfl) (by kernel_rfl)) (by kernel_rfl) (by kernel_rfl) (by kernel_rfl)
   (by rw[MakeChecks.laidMetH_plain _ _ _ (by kernel_rfl)];exact laidMet_laidAll _ (by kernel_rfl) (by kernel_rfl))) ?_
 intro W base args ds gs before hval0 hW hsh hL;have hval:∀(j:Nat) t v,Tryz.f3.params[j]?=some t->args[j]?=some v->Value.okWide Tryz.prog W .any base t v:=hval0;have hW':=hW;obtain⟨p,q,hA0,hV,rfl,hfz,hnd⟩:=hW;have hA:DataW.TrodAll enc Tryz.prog W 0 (fun _=>true) true Tryz.f3.params.toList args.toList ds p:=hA0;rw[Tryz.params3]at hA hval;obtain⟨v0,vs0,d0,ds0,p0,q0,hargs,rfl,rfl,h0,r0⟩:=trodAll_cons hA;obtain⟨v1,vs1,d1,ds1,p1,q1,hvs1,rfl,rfl,h1,r1⟩:=trodAll_cons r0;obtain⟨rfl,rfl,rfl⟩:=trodAll_nil r1;subst hvs1;obtain rfl:args=#[v0,v1]:=by cases args;simp_all
 obtain⟨rfl,rfl⟩:=trodVars_none hV;obtain⟨K,op,A,n,c,N,rfl,hp,h2,h3⟩:=RM (hval 0 26 v0 rfl rfl) h0;obtain⟨s,rfl,rfl,rfl,-⟩:=open_string Tryz.underlying9 (hval 1 9 v1 rfl rfl) h1;refine(jM (Uu hsh) (S9 rfl hL) hp h2 h3 K op N s).mono fun e W' ⟨he,hb⟩=>?_
 subst he;exact⟨_,rfl,Tn hW' rfl rfl rfl Tryz.underlying4 Zo (by decide +kernel) hb (ok_one (by kernel_rfl) rfl (okWide_bool_mk Tryz.underlying4 _))⟩
def iO:Rows.RuleNoneSaid:=
 OpenClaim.holds_of_wide 3 Tryz.f3 rfl rfl rfl rfl rfl rfl rfl ⟨rfl,rfl,rfl,rfl,rfl⟩ rfl rfl rfl rfl rfl (by kernel_rfl) Tryz.func3 (by kernel_rfl)
  (of_decide_eq_true (by kernel_rfl)) (by unfold Func.isWrapper;first|(rw[if_pos (by decide +kernel)];kernel_rfl)|(rw[if_neg (by decide +kernel)];exact⟨rfl,rfl⟩))
  (fun j l H i _=>XV j l H i)
theorem none_holds:Rows.RuleNoneCardSaid:=
 Claim7.holds_tied_plain_at .later [] [.data,.data] true _ true
  iO (fun _ h=>by cases h) (by kernel_rfl) (fun _ h=>by cases h) ruleNone_row_tie rfl ⟨rfl,rfl⟩ (by kernel_rfl) rfl
  (fun f fn o p=>by
   obtain rfl:f=3:=Option.some.inj ((show Tryz.prog.funcNamed "conch/conchlaw31.RuleNone"=some 3 by kernel_rfl).symm.trans o) |>.symm;obtain rfl:fn=Tryz.f3:=(Option.some.inj (Tryz.func3.symm.trans p)).symm;exact⟨by kernel_rfl,fun j t i=>by
    rw[Tryz.params3]at i;have C:t∈[26,9]:=by simpa using Array.mem_of_getElem? i
    have l:([26,9].all fun u=>!Tryz.prog.wantsStandIn u)=true:=by kernel_rfl
    exact(show Tryz.prog.wantsStandIn t=false by simpa using List.all_eq_true.1 l t C)⟩)
  (by kernel_rfl)
#print axioms none_holds
end
end Go.Proofs.YtlogpnoioimhjaaGreatDoor
