/- PosixTakes. -/
import Derived.Test.YthaacmablcpdfaaGreatDoorXbm
import Derived.Test.YthaacmablcpdfaaGreatDoorXbe
import Derived.Test.YthaacmablcpdfaaGreatDoorTie
import Derived.Test.YthaacmablcpdfaaGreatDoorCards
import Derived.HandedShaped
import Derived.Deep.Slices
import Derived.Handy
set_option linter.all false
set_option maxRecDepth 100000
set_option maxHeartbeats 0
namespace Go.Proofs.YthaacmablcpdfaaGreatDoor
open Go.RowKit Go.Proofs.Tryz
variable{w:World}{H:Type}
section
open Go.ChangeShapes Go.WideShapes Go.ChangeAt Go.RowKit
def aY(h:w.ShapedOpen Tryz.prog):Gp w:=
 Go.Proofs.cell_of_shapedOpen_int (zero:=#[.int .i64 0]) (t:=3) h (of_decide_eq_true (by kernel_rfl)) (by kernel_rfl) rfl (by kernel_rfl) (by kernel_rfl) underlying3
def ZH:ownKnob Tryz.prog.godebug=none:=by kernel_rfl
def eH:laidOutB Tryz.prog=true:=by kernel_rfl
def VE{enc:TypeId×Value->H}{A:Option Addr}{n c:Nat}{d:DataW H}{p:List MemPlace}(h:DataW.Trod enc Tryz.prog w 0 (fun _=>true) true 44 (.slice A n c) d p)(k:Nat)(hk:k<n) :
  ∃b off,A=some ⟨b,off,none⟩/\b<w.heap.size/\∃x:Int,w.cell? ⟨b,off+k,none⟩=some (.int .i64 x):=by
 obtain⟨a4,hf⟩:=h;rcases Go.Deep.open_slice underlying44 hf with⟨e,-⟩|⟨a,len,cap,m,n',D,Pl,e,hb,hl,hm,P,-,J⟩
 ·simp only[Value.cells,List.cons.injEq,Value.slice.injEq]at e
  omega
 ·simp only[Value.cells,List.cons.injEq,Value.slice.injEq]at e
  obtain⟨⟨rfl,rfl,rfl⟩,-⟩:=e;obtain⟨U,C,ht⟩:=J k (by rw[if_pos rfl]at P;omega);rw[show Tryz.prog.cellsOf 3=1 by kernel_rfl,Nat.mul_one]at C;obtain⟨_,a2,a0⟩:=World.cells?_some C
  match U,a2 with
  | [v0],_=>
   have j:=a0 0 (by omega);simp only[List.getElem?_cons_zero]at j;obtain⟨K,t,-,-⟩:=DataW.trod_int underlying3 ht;simp only[List.cons.injEq,and_true]at t;subst t;have T:a.spot=none:=by
    obtain⟨a3,I,-⟩:=J 0 (by rw[if_pos rfl]at P;omega);rw[show Tryz.prog.cellsOf 3=1 by kernel_rfl]at I;obtain⟨_,a5,a1⟩:=World.cells?_some I;have h0:=a1 0 (by omega);rw[eG (by omega),Nat.zero_mul,show a.add 0=a by unfold Addr.add;rw[if_pos rfl],show a.add 0=a by unfold Addr.add;rw[if_pos rfl]]at h0;unfold World.cell? at h0;split at h0
    ·split at h0
     ·cases h0
     ·rename_i R
      cases hh:a.spot with
      | none=>rfl
      | some x=>rw[hh]at R;exact absurd rfl R
    ·cases h0
   obtain⟨b,off,s⟩:=a;dsimp only at T;subst T;have l:∀o i,(⟨b,o,none⟩:Addr).add i=⟨b,o+i,none⟩:=fun o i=>by
    unfold Addr.add;split
    ·rename_i h0;simp_all
    ·rfl
   rw[l,l]at j;exact⟨b,off,rfl,World.block_lt_of_cell? w _ j,K,j⟩
def VW{enc:TypeId×Value->H}{a:Assume}{C:Checked}{os:Os}{f:FuncId}{fn:Func}{s:ChangeSpec}{R:List PathCond}{apart fresh T P:Bool}{X:World->Array Value->Prop}
  (hX:∀(w w':World) (args:Array Value),w.heap=w'.heap->X w args->X w' args)
  (own:ownKnob C.prog.godebug=none) (a9:os.Started) (a8:C.prog.inits.idxOf? f=none) (a1:C.prog.funcs[f]?=some fn)
  (aa:∃(w:World) (l:Tape) (i:Input),w.os=os/\(w.forCall l i).Shaped C.prog/\i.vars=[]/\Input.okWide C.prog (w.forCall l i) .any w.heap.size f i /\
   ((s.pre enc C.prog fn R apart (w.forCall l i).memory i.args/\X (w.forCall l i).memory i.args)/\sizedMet enc C.prog fn (OpenSpec.ofChange s) apart (w.forCall l i).memory i.args)/\a.holds C.prog (lone (Frame.enter C.prog f i.args .normal) [] (w.forCall l i)))
  (U:∀(W:World) (base:Nat) (args:Array Value) (p I:List (DataW H)) (o:List MemPlace),
   (∀(j:Nat) t v,fn.params[j]?=some t->args[j]?=some v->Value.okWide C.prog W .any base t v) ->
   DataW.Whole enc C.prog fn.params.toList s.vars apart W args.toList p I o->W.ShapedOpen C.prog->X W args ->
   Calls C.prog f args W fun e J=>∃v,e=.returned v/\s.post enc C.prog fn apart fresh T P W args v J) :
  ReturnsInHanded a C os f .any (fun w args=>(s.pre enc C.prog fn R apart w args/\X w args)/\sizedMet enc C.prog fn (OpenSpec.ofChange s) apart w args) (s.post enc C.prog fn apart fresh T P):=by
 refine returnsInHanded_of_calls own a9 a8 aa ?_;intro w l i _ a5 _ a3 a4 _;obtain⟨_,_,_,a0,a2,_,_,_,_,a6⟩:=a3;have e:a0=fn:=Option.some.inj (a2.symm.trans a1);subst e;obtain⟨⟨⟨p,I,o,hw,hc⟩,hx⟩,hz⟩:=a4;have a7:=DataW.Whole.of_heap (w':=w.forCall l i) (by rfl) hw;refine(U (w.forCall l i) w.heap.size i.args p I o a6 a7 a5 (hX _ _ _ (by rfl) hx)).mono fun e J ⟨v,he,hp⟩=>?_
 subst he;exact ChangeSpec.post_blind hp
def dV(os:Os)(a2:os.Started)(H:Type)(enc:TypeId×Value->H) :
  ReturnsInHanded {} Tryz.checked os 5 .any (fun w args=>(Rows.posixTakesSpec.pre enc Tryz.prog Tryz.f5 Rows.posixTakesRow.domain false w args/\laidMetH Tryz.prog Rows.posixTakesRow.laid w)/\sizedMet enc Tryz.prog Tryz.f5 (OpenSpec.ofChange Rows.posixTakesSpec) false w args)
   (Rows.posixTakesSpec.post enc Tryz.prog Tryz.f5 false true false false):=by
 refine VW (C:=Tryz.checked) (X:=fun w _=>laidMetH Tryz.prog Rows.posixTakesRow.laid w) (fun _ _ _ T h=>h.of_heap T) ZH a2 (by kernel_rfl) func5
  (ChangeSpec.witness_shaped (enc:=enc) (C:=Tryz.checked) (os:=os) (X:=fun w _=>laidMetH Tryz.prog Rows.posixTakesRow.laid w) false (World.laidAll Tryz.prog os Rows.posixTakesRow.laid) #[.slice none 0 0] 8 (World.laidAll_os _ _ _)
   (World.shaped_of_ZipB (by kernel_rfl) (by kernel_rfl)) (by kernel_rfl) (by kernel_rfl) (by kernel_rfl)
   (by rw[MakeChecks.laidMetH_plain _ _ _ (by kernel_rfl)];exact laidMet_laidAll _ (by kernel_rfl) (by kernel_rfl))) ?_
 intro W base args p gs a3 a0 l U I;have o:∀(j:Nat) t v,Tryz.f5.params[j]?=some t->args[j]?=some v->Value.okWide Tryz.prog W .any base t v:=a0;have J:=l;obtain⟨a1,q,C,hV,rfl,a6,a7⟩:=l;have i:DataW.TrodAll enc Tryz.prog W 0 (fun _=>true) true Tryz.f5.params.toList args.toList p a1:=C;rw[params5]at i o;obtain⟨v0,a8,d0,a4,p0,q0,a5,rfl,rfl,h0,r0⟩:=trodAll_cons i;obtain⟨rfl,rfl,rfl⟩:=trodAll_nil r0;obtain rfl:args=#[v0]:=by cases args;simp_all
 obtain⟨rfl,rfl⟩:=trodVars_none hV;obtain⟨A,n,c,rfl⟩:=okWide_slice underlying44 (o 0 44 v0 rfl rfl);refine(dL (aY U) (YP rfl I) fun _=>VE h0).mono fun e W' ⟨R,P⟩=>?_
 subst R;exact⟨_,rfl,Zr J rfl rfl rfl underlying4 eH (by decide +kernel) P (ok_one (by kernel_rfl) rfl (okWide_bool_mk underlying4 _))⟩
def ZI:Rows.PosixTakesSaid:=
 OpenClaim.holds_of_wide 5 Tryz.f5 rfl rfl rfl rfl rfl rfl rfl ⟨rfl,rfl,rfl,rfl,rfl⟩ rfl rfl rfl rfl rfl (by kernel_rfl) func5 (by kernel_rfl)
  (of_decide_eq_true (by kernel_rfl)) (by unfold Func.isWrapper;first|(rw[if_pos (by decide +kernel)];kernel_rfl)|(rw[if_neg (by decide +kernel)];exact⟨rfl,rfl⟩))
  (fun j l H i _=>dV j l H i)
theorem takes_holds:Rows.PosixTakesCardSaid:=
 Claim7.holds_tied_plain_at .later [] [.data,.data] true _ true
  ZI (fun _ h=>by cases h) (by kernel_rfl) (fun _ h=>by cases h) posixTakes_row_tie rfl ⟨rfl,rfl⟩ (by kernel_rfl) rfl
  (fun f fn l o=>by
   obtain rfl:f=5:=Option.some.inj ((show Tryz.prog.funcNamed "conch/conchlaw30.PosixTakes"=some 5 by kernel_rfl).symm.trans l) |>.symm;obtain rfl:fn=Tryz.f5:=(Option.some.inj (func5.symm.trans o)).symm;exact⟨by kernel_rfl,fun j t i=>by
    rw[params5]at i;obtain rfl:t=44:=by simpa using Array.mem_of_getElem? i
    kernel_rfl⟩)
  (by kernel_rfl)
#print axioms takes_holds
end
end Go.Proofs.YthaacmablcpdfaaGreatDoor
