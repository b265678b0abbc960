/- RuleTells: wherever an engine is, for any token: where that is, the terminal of the token, whether it may be an alias, as the document says. Conditions: none but what the card itself lays. -/
import Derived.Test.YtlogpnoioimhjaaGreatDoorXck
set_option linter.all false
set_option maxRecDepth 100000
set_option maxHeartbeats 16000000
namespace Go.Proofs.YtlogpnoioimhjaaGreatDoor
open Go.RowKit Go.Proofs.Tryz
section
open Go.ChangeShapes Go.WideShapes Go.ChangeAt Go.RowKit
open Go.ChangeMaps (open_string)
def U8{H:Type}{enc:TypeId×Value->H}{w:World}{A:Option Addr}{n c:Nat}{d:DataW H}{p:List MemPlace}(h:DataW.Trod enc Tryz.prog w 0 (fun _=>true) true 43 (.slice A n c) d p)(k:Nat)(hk:k<n) :
  ∃b off,A=some ⟨b,off,none⟩/\b<w.heap.size/\∃x:Int,w.cell? ⟨b,off+k,none⟩=some (.int .i64 x):=by
 obtain⟨a4,hf⟩:=h;rcases Go.Deep.open_slice underlying43 hf with⟨e,-⟩|⟨a,len,cap,m,n',D,Pl,e,hb,hl,hm,P,-,J⟩
 ·simp only[Value.cells,List.cons.injEq,Value.slice.injEq]at e
  omega
 ·simp only[Value.cells,List.cons.injEq,Value.slice.injEq]at e
  obtain⟨⟨rfl,rfl,rfl⟩,-⟩:=e;obtain⟨U,C,ht⟩:=J k (by rw[if_pos rfl]at P;omega);rw[show Tryz.prog.cellsOf 3=1 by kernel_rfl,Nat.mul_one]at C;obtain⟨_,a2,a0⟩:=World.cells?_some C
  match U,a2 with
  | [v0],_=>
   have j:=a0 0 (by omega);simp only[List.getElem?_cons_zero]at j;obtain⟨K,t,-,-⟩:=DataW.trod_int underlying3 ht;simp only[List.cons.injEq,and_true]at t;subst t;have T:a.spot=none:=by
    obtain⟨a3,I,-⟩:=J 0 (by rw[if_pos rfl]at P;omega);rw[show Tryz.prog.cellsOf 3=1 by kernel_rfl]at I;obtain⟨_,a5,a1⟩:=World.cells?_some I;have h0:=a1 0 (by omega);rw[eG (by omega),Nat.zero_mul,show a.add 0=a by unfold Addr.add;rw[if_pos rfl],show a.add 0=a by unfold Addr.add;rw[if_pos rfl]]at h0;unfold World.cell? at h0;split at h0
    ·split at h0
     ·cases h0
     ·rename_i R
      cases hh:a.spot with
      | none=>rfl
      | some x=>rw[hh]at R;exact absurd rfl R
    ·cases h0
   obtain⟨b,off,s⟩:=a;dsimp only at T;subst T;have l:∀o i,(⟨b,o,none⟩:Addr).add i=⟨b,o+i,none⟩:=fun o i=>by
    unfold Addr.add;split
    ·rename_i h0;simp_all
    ·rfl
   rw[l,l]at j;exact⟨b,off,rfl,World.block_lt_of_cell? w _ j,K,j⟩
def ZE:ownKnob Tryz.prog.godebug=none:=by kernel_rfl
def ZB:laidOutB Tryz.prog=true:=by kernel_rfl
def WI(os:Os)(a5:os.Started)(H:Type)(enc:TypeId×Value->H) :
  ReturnsInHanded {} Tryz.checked os 4 .any (fun w args=>(Rows.ruleTellsSpec.pre enc Tryz.prog Tryz.f4 Rows.ruleTellsRow.domain false w args/\laidMetH Tryz.prog Rows.ruleTellsRow.laid w)/\sizedMet enc Tryz.prog Tryz.f4 (OpenSpec.ofChange Rows.ruleTellsSpec) false w args)
   (Rows.ruleTellsSpec.post enc Tryz.prog Tryz.f4 false true false false):=by
 refine UO (C:=Tryz.checked) (X:=fun w _=>laidMetH Tryz.prog Rows.ruleTellsRow.laid w) (fun _ _ _ hh h=>h.of_heap hh) ZE a5 (by kernel_rfl) func4
  (ChangeSpec.witness_shaped (enc:=enc) (C:=Tryz.checked) (os:=os) (X:=fun w _=>laidMetH Tryz.prog Rows.ruleTellsRow.laid w) false (World.laidAll Tryz.prog os Rows.ruleTellsRow.laid) #[.slice none 0 0,.agg #[.int .i64 0,.int .i64 0,.slice none 0 0,.string ByteArray.empty],.bool false] 8 (World.laidAll_os _ _ _)
   (World.shaped_of_ZipB (by kernel_rfl) (by kernel_rfl)) (by kernel_rfl) (by kernel_rfl) (by kernel_rfl)
   (by rw[MakeChecks.laidMetH_plain _ _ _ (by kernel_rfl)];exact laidMet_laidAll _ (by kernel_rfl) (by kernel_rfl))) ?_
 intro W base args C gs a6 a1 o a0 T;have i:∀(j:Nat) t v,Tryz.f4.params[j]?=some t->args[j]?=some v->Value.okWide Tryz.prog W .any base t v:=a1;have U:=o;obtain⟨a4,q,R,hV,rfl,ab,ad⟩:=o;have l:DataW.TrodAll enc Tryz.prog W 0 (fun _=>true) true Tryz.f4.params.toList args.toList C a4:=R;rw[params4]at l i;obtain⟨v0,ae,d0,a7,p0,q0,aa,rfl,rfl,h0,r0⟩:=trodAll_cons l;obtain⟨v1,af,d1,a8,p1,q1,a2,rfl,rfl,I,r1⟩:=trodAll_cons r0;obtain⟨p,ag,d2,a9,p2,q2,a3,rfl,rfl,h2,r2⟩:=trodAll_cons r1;obtain⟨rfl,rfl,rfl⟩:=trodAll_nil r2;subst a2 a3;obtain rfl:args=#[v0,v1,p]:=by cases args;simp_all
 obtain⟨rfl,rfl⟩:=trodVars_none hV;obtain⟨B,m,cb,rfl⟩:=okWide_slice underlying43 (i 0 43 v0 rfl rfl);obtain⟨K,op,A,n,c,N,rfl,hp,J,P⟩:=RM (i 1 26 v1 rfl rfl) I;obtain⟨nx,rfl⟩:=okWide_bool underlying4 (i 2 4 p rfl rfl);refine(bE (Uu a0) (S9 rfl T) (fun _=>U8 h0) hp J P K op N nx).mono fun e W' ⟨he,hb⟩=>?_
 subst he;exact⟨_,rfl,Tn U rfl rfl rfl underlying4 ZB (by decide +kernel) hb (ok_one (by kernel_rfl) rfl (okWide_bool_mk underlying4 _))⟩
def cD:Rows.RuleTellsSaid:=
 OpenClaim.holds_of_wide 4 Tryz.f4 rfl rfl rfl rfl rfl rfl rfl ⟨rfl,rfl,rfl,rfl,rfl⟩ rfl rfl rfl rfl rfl (by kernel_rfl) func4 (by kernel_rfl)
  (of_decide_eq_true (by kernel_rfl)) (by unfold Func.isWrapper;first|(rw[if_pos (by decide +kernel)];kernel_rfl)|(rw[if_neg (by decide +kernel)];exact⟨rfl,rfl⟩))
  (fun j l H i _=>WI j l H i)
theorem tells_holds:Rows.RuleTellsCardSaid:=
 Claim7.holds_tied_plain_at .later [] [.data,.data] true _ true
  cD (fun _ h=>by cases h) (by kernel_rfl) (fun _ h=>by cases h) ruleTells_row_tie rfl ⟨rfl,rfl⟩ (by kernel_rfl) rfl
  (fun f fn o p=>by
   obtain rfl:f=4:=Option.some.inj ((show Tryz.prog.funcNamed "conch/conchlaw31.RuleTells"=some 4 by kernel_rfl).symm.trans o) |>.symm;obtain rfl:fn=Tryz.f4:=(Option.some.inj (func4.symm.trans p)).symm;exact⟨by kernel_rfl,fun j t i=>by
    rw[params4]at i;have C:t∈[43,26,4]:=by simpa using Array.mem_of_getElem? i
    have l:([43,26,4].all fun u=>!Tryz.prog.wantsStandIn u)=true:=by kernel_rfl
    exact(show Tryz.prog.wantsStandIn t=false by simpa using List.all_eq_true.1 l t C)⟩)
  (by kernel_rfl)
#print axioms tells_holds
end
end Go.Proofs.YtlogpnoioimhjaaGreatDoor
