/- BuildOther: a tree that is no unit of the grammar is no command. Conditions: none but what the card itself lays. -/
import Derived.Test.YtiljpamcmmeflaaGreatDoorXcf
import Derived.Test.YtiljpamcmmeflaaGreatDoorXbe
import Derived.Test.YtiljpamcmmeflaaGreatDoorTie
import Derived.Test.YtiljpamcmmeflaaGreatDoorCards
import Derived.ChangeMaps5
import Derived.HandedShaped
import Derived.Deep.Slices
import Derived.LaidLaws
import Derived.LaidHandle
import Derived.Stop.Joined
import Derived.SevenTiedAt
import Derived.Handy
set_option linter.all false
set_option maxRecDepth 100000
set_option maxHeartbeats 16000000
namespace Go.Proofs.YtiljpamcmmeflaaGreatDoor
open Go.RowKit Go.Proofs.Tryz
open Option renaming some→nJ,none→nK
open Go renaming World→nS,Value→nU
variable{w:nS}{H:Type}
section
open Go.ChangeShapes Go.WideShapes Go.ChangeAt Go.RowKit
def YP(h:w.ShapedOpen Tryz.prog):FI w:=
 Go.Proofs.cell_of_shapedOpen_int (zero:=#[.int .i64 0]) (t:=3) h (of_decide_eq_true mU) mU rfl mU mU underlying3
def Xw{enc:TypeId×nU->H}{a:Assume}{C:Checked}{os:Os}{f:FuncId}{fn:Func}{s:ChangeSpec}{R:List PathCond}{apart fresh T P:Bool}{X:nS->Array nU->Prop}
  (hX:∀(w w':nS) (args:Array nU),w.heap=w'.heap->X w args->X w' args)
  (own:ownKnob C.prog.godebug=nK) (a9:os.Started) (a8:C.prog.inits.idxOf? f=nK) (a1:C.prog.funcs[f]?=nJ fn)
  (aa:∃(w:nS) (l:Tape) (i:Input),w.os=os/\(w.forCall l i).Shaped C.prog/\i.vars=[]/\Input.okWide C.prog (w.forCall l i) .any w.heap.size f i /\
   ((s.pre enc C.prog fn R apart (w.forCall l i).memory i.args/\X (w.forCall l i).memory i.args)/\sizedMet enc C.prog fn (OpenSpec.ofChange s) apart (w.forCall l i).memory i.args)/\a.holds C.prog (lone (Frame.enter C.prog f i.args .normal) [] (w.forCall l i)))
  (U:∀(W:nS) (base:Nat) (args:Array nU) (p I:List (DataW H)) (o:List MemPlace),
   (∀(j:Nat) t v,fn.params[j]?=nJ t->args[j]?=nJ v->Value.okWide C.prog W .any base t v) ->
   DataW.Whole enc C.prog fn.params.toList s.vars apart W args.toList p I o->W.ShapedOpen C.prog->X W args ->
   Calls C.prog f args W fun e J=>∃v,e=.returned v/\s.post enc C.prog fn apart fresh T P W args v J) :
  ReturnsInHanded a C os f .any (fun w args=>(s.pre enc C.prog fn R apart w args/\X w args)/\sizedMet enc C.prog fn (OpenSpec.ofChange s) apart w args) (s.post enc C.prog fn apart fresh T P):=by
 refine returnsInHanded_of_calls own a9 a8 aa ?_;intro w l i _ a5 _ a3 a4 _;obtain⟨_,_,_,a0,a2,_,_,_,_,a6⟩:=a3;have e:a0=fn:=Option.some.inj (a2.symm.trans a1);subst e;obtain⟨⟨⟨p,I,o,hw,hc⟩,hx⟩,hz⟩:=a4;have a7:=DataW.Whole.of_heap (w':=w.forCall l i) nB hw;refine(U (w.forCall l i) w.heap.size i.args p I o a6 a7 a5 (hX _ _ _ nB hx)).mono fun e J ⟨v,he,hp⟩=>?_
 subst he;exact ChangeSpec.post_blind hp
def XE{enc:TypeId×nU->H}{A:Option Addr}{n c:Nat}{d:DataW H}{p:List MemPlace}(h:DataW.Trod enc Tryz.prog w 0 (fun _=>true) true 34 (.slice A n c) d p):n<=c/\c<=maxLen/\(A=nK->c=0)/\∀k,k<n ->
  ∃b off,A=nJ ⟨b,off,nK⟩/\b<w.heap.size/\∃x:Int,w.cell? ⟨b,off+k,nK⟩=nJ (.int .i64 x):=by
 obtain⟨a5,hf⟩:=h;rcases Go.Deep.open_slice underlying34 hf with⟨e,-⟩|⟨a,len,cap,m,n',D,Pl,e,hb,hl,hm,R,-,J⟩
 ·simp only[Value.cells,List.cons.injEq,Value.slice.injEq]at e
  obtain⟨⟨rfl,rfl,rfl⟩,-⟩:=e;exact⟨AF _,A0 _,fun _=>rfl,fun k P=>absurd P (Nat.not_lt_zero k)⟩
 ·simp only[Value.cells,List.cons.injEq,Value.slice.injEq]at e
  obtain⟨⟨rfl,rfl,rfl⟩,-⟩:=e;refine⟨hl,hm,(fun e=>by cases e),fun k P=>?_⟩;obtain⟨a0,C,ht⟩:=J k (by rw[if_pos rfl]at R;omega);rw[show Tryz.prog.cellsOf 3=1 by kernel_rfl,Nat.mul_one]at C;obtain⟨_,a3,a1⟩:=World.cells?_some C
  match a0,a3 with
  | [v0],_=>
   have j:=a1 0 mR;simp only[List.getElem?_cons_zero]at j;obtain⟨K,t,-,-⟩:=DataW.trod_int underlying3 ht;simp only[List.cons.injEq,and_true]at t;subst t;have U:a.spot=nK:=by
    obtain⟨a4,I,-⟩:=J 0 (by rw[if_pos rfl]at R;omega);rw[show Tryz.prog.cellsOf 3=1 by kernel_rfl]at I;obtain⟨_,a6,a2⟩:=World.cells?_some I;have h0:=a2 0 mR;rw[eG mR,Nat.zero_mul,show a.add 0=a by unfold Addr.add;rw[if_pos rfl],show a.add 0=a by unfold Addr.add;rw[if_pos rfl]]at h0;unfold World.cell? at h0;split at h0
    ·split at h0
     ·cases h0
     ·rename_i T
      cases hh:a.spot with
      | none=>rfl
      | some x=>rw[hh]at T;exact absurd rfl T
    ·cases h0
   obtain⟨b,off,s⟩:=a;dsimp only at U;subst U;have l:∀o i,(⟨b,o,nK⟩:Addr).add i=⟨b,o+i,nK⟩:=fun o i=>by
    unfold Addr.add;split
    ·rename_i h0;simp_all
    ·rfl
   rw[l,l]at j;exact⟨b,off,rfl,World.block_lt_of_cell? w _ j,K,j⟩
def bD:ownKnob Tryz.prog.godebug=nK:=by kernel_rfl
def Y8:laidOutB Tryz.prog=true:=by kernel_rfl
def VO(os:Os)(a5:os.Started)(H:Type)(enc:TypeId×nU->H) :
  ReturnsInHanded {} Tryz.checked os 4 .any (fun w args=>(Rows.buildOtherSpec.pre enc Tryz.prog Tryz.f4 Rows.buildOtherRow.domain false w args/\laidMetH Tryz.prog Rows.buildOtherRow.laid w)/\sizedMet enc Tryz.prog Tryz.f4 (OpenSpec.ofChange Rows.buildOtherSpec) false w args)
   (Rows.buildOtherSpec.post enc Tryz.prog Tryz.f4 false true false false):=by
 refine Xw (C:=Tryz.checked) (X:=fun w _=>laidMetH Tryz.prog Rows.buildOtherRow.laid w) (fun _ _ _ hh h=>h.of_heap hh) bD a5 mU func4
  (ChangeSpec.witness_shaped (enc:=enc) (C:=Tryz.checked) (os:=os) (X:=fun w _=>laidMetH Tryz.prog Rows.buildOtherRow.laid w) false (World.laidAll Tryz.prog os Rows.buildOtherRow.laid) #[.int .i64 0,.int .i64 0,.slice nK 0 0] 8 (World.laidAll_os _ _ _)
   (World.shaped_of_ZipB mU mU) mU mU mU
   (by rw[MakeChecks.laidMetH_plain _ _ _ mU];exact laidMet_laidAll _ mU mU)) ?_
 intro W base args C gs a6 a1 o a0 P;have i:∀(j:Nat) t v,Tryz.f4.params[j]?=nJ t->args[j]?=nJ v->Value.okWide Tryz.prog W .any base t v:=a1;have R:=o;obtain⟨a4,q,J,hV,rfl,ab,ad⟩:=o;have l:DataW.TrodAll enc Tryz.prog W 0 (fun _=>true) true Tryz.f4.params.toList args.toList C a4:=J;rw[params4]at l i;obtain⟨v0,ae,d0,a7,p0,q0,aa,rfl,rfl,h0,r0⟩:=trodAll_cons l;obtain⟨v1,af,d1,a8,p1,q1,a2,rfl,rfl,h1,r1⟩:=trodAll_cons r0;obtain⟨p,ag,d2,a9,p2,q2,a3,rfl,rfl,I,r2⟩:=trodAll_cons r1;obtain⟨rfl,rfl,rfl⟩:=trodAll_nil r2;subst a2 a3;obtain rfl:args=#[v0,v1,p]:=by cases args;simp_all
 obtain⟨rfl,rfl⟩:=trodVars_none hV;obtain⟨s,rfl⟩:=okWide_int underlying3 (i 0 3 v0 rfl rfl);obtain⟨r,rfl⟩:=okWide_int underlying3 (i 1 3 v1 rfl rfl);obtain⟨A,n,c,rfl⟩:=okWide_slice underlying34 (i 2 34 p rfl rfl);obtain⟨k1,k2,k3,k4⟩:=XE I;refine(Xd (YP a0) (fC rfl P) k1 k2 k3 k4).mono fun e W' ⟨U,T⟩=>?_
 subst U;exact⟨_,rfl,WC R rfl rfl rfl underlying4 Y8 (by decide +kernel) T (ok_one mU rfl (okWide_bool_mk underlying4 _))⟩
def jO:Rows.BuildOtherSaid:=
 OpenClaim.holds_of_wide 4 Tryz.f4 rfl rfl rfl rfl rfl rfl rfl ⟨rfl,rfl,rfl,rfl,rfl⟩ rfl rfl rfl rfl rfl mU func4 mU
  (of_decide_eq_true mU) (by unfold Func.isWrapper;first|(rw[if_pos (by decide +kernel)];kernel_rfl)|(rw[if_neg (by decide +kernel)];exact⟨rfl,rfl⟩))
  (fun j l H i _=>VO j l H i)
theorem other_holds:Rows.BuildOtherCardSaid:=
 Claim7.holds_tied_plain_at .later [] [.data,.data] true _ true
  jO (fun _ h=>by cases h) mU (fun _ h=>by cases h) buildOther_row_tie rfl ⟨rfl,rfl⟩ mU rfl
  (fun f fn o p=>by
   obtain rfl:f=4:=Option.some.inj ((show Tryz.prog.funcNamed "conch/conchlaw34.BuildOther"=nJ 4 by kernel_rfl).symm.trans o) |>.symm;obtain rfl:fn=Tryz.f4:=(Option.some.inj (func4.symm.trans p)).symm;exact⟨mU,fun j t i=>by
    rw[params4]at i;have C:t∈[3,3,34]:=by simpa using Array.mem_of_getElem? i
    have l:([3,3,34].all fun u=>!Tryz.prog.wantsStandIn u)=true:=by kernel_rfl
    exact(show Tryz.prog.wantsStandIn t=false by simpa using List.all_eq_true.1 l t C)⟩)
  mU
#print axioms other_holds
end
