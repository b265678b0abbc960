/- RuleOpens: wherever an engine is, which words and operators that are not over yet can come. Conditions: none but what the card itself lays. -/
import Derived.Test.YtendpobbjjaopaaGreatDoorXck
import Derived.Test.YtendpobbjjaopaaGreatDoorXch
import Derived.Test.YtendpobbjjaopaaGreatDoorXbe
import Derived.Test.YtendpobbjjaopaaGreatDoorTie
import Derived.Test.YtendpobbjjaopaaGreatDoorCards
import Derived.ChangeMaps5
import Derived.HandedShaped
import Derived.Deep.Slices
import Derived.LaidLaws
import Derived.LaidHandle
import Derived.Stop.Joined
import Derived.SevenTiedAt
import Derived.Handy
set_option linter.all false
set_option maxRecDepth 100000
set_option maxHeartbeats 16000000
namespace Go.Proofs.YtendpobbjjaopaaGreatDoor
open Go.RowKit Go.Proofs.Tryz
open Value renaming slice→oG
open Option renaming some→oM,none→oN
open Go renaming World→oU,Value→oV
variable{w:oU}{H:Type}
def ny(I:G2 w)(hT:D9 w){B:Option Addr}{m cb:Nat}(hl:∀k,k<m->∃b off,B=oM ⟨b,off,oN⟩/\b<w.heap.size/\∃x:Int,w.cell? ⟨b,off+k,oN⟩=oM (.int .i64 x))(s:ByteArray) :
  Calls Tryz.prog 3 #[oG B m cb,.string s] w (fun e w'=>e=.returned (.bool true)/\Below w.heap.size w w'):=by
 have a7:=Hd (eF I);have P:=Hd fun y (o:Below w.heap.size w y)=>hT.later o
 have R:=Hd fun y tb (o:Below w.heap.size w y) (t:Gu y tb) (I:m<=40)=>mC (ca:=cb) t I fun k hk=>by obtain⟨b,off,e,i,x,hc⟩:=hl k hk;exact⟨b,off,e,A0 i o.size,x,(o.cell (p:=⟨b,off+k,oN⟩) i).trans hc⟩
 have U:=Hd fun y (h:s.size<=200)=>gF s nX y
 clear I hT hl;go_enter func3,ntmps3
 go_upto_region 4 with(first
  | (go_at_call 4;refine a7.out.mono ?_;rintro e w1 ⟨tb,rfl,t,i⟩;have l:=Hd i;have a4:=Hd (W3 (P.out _ i) t);have C:=Hd t;clear t i a7)
  | (go_at_call 5;refine a4.out.mono ?_;rintro e w2 ⟨rfl,i⟩;replace C:=Hd (C.out.later i);replace l:=Hd (l.out.trans (i.mono l.out.size));clear i a4))
 by_cases I:40<m
 ·have al:(40:Int)<(m:Int):=by omega
  clear C P R U;go_wp2_with fail
  go_ret;exact⟨rfl,l.out⟩
 have al:¬(40:Int)<(m:Int):=by omega
 by_cases hs:200<s.size
 ·have an:(200:Int)<(s.size:Int):=by omega
  clear C P R U;go_wp2_with fail
  go_ret;exact⟨rfl,l.out⟩
 have an:¬(200:Int)<(s.size:Int):=by omega
 have HM:Hid (m<=40):=Hd nX;have ab:Hid (s.size<=200):=Hd nX;clear I hs;go_upto_region 8 with(first
  | (go_at_call 6;refine(R.out _ _ l.out C.out HM.out).mono ?_;rintro e w4 ⟨eb,v,ad,rfl,i,af,ae⟩;replace l:=Hd (l.out.trans (i.mono l.out.size));have a6:=Hd af;have a5:=Hd ae;clear i af ae)
  | (
    go_at_call 7;refine(U.out _ ab.out).mono ?_;rintro e p ⟨a,b,rfl,N,x,hN,hM⟩
    have i:=hM.frame;have a0:=Hd (a6.out.later i);have T:=Hd (a5.out.later i);replace l:=Hd (l.out.trans (i.mono l.out.size));have a9:=Hd (YH hM);have a8:=Hd hN;clear i hM hN))
 obtain⟨gb,gc,rfl⟩:∃gb gc,v=oG (oM ⟨gb,0,oN⟩) 39 gc:=by obtain⟨⟨b,c,e,-⟩,-⟩:=T.out;exact⟨b,c,e⟩
 obtain⟨ah,ag,t,a2⟩:=a9.out;have a3:ah.size<=9223372036854775807:=by have:=a8.out;omega
 have a1:=Hd (P.out _ l.out);have HO:=Hd fun y (o:Below p.heap.size p y)=>Oz (a1.out.later o) (a0.out.later o) s
 have aa:=Hd fun y (o:Below p.heap.size p y)=>jM (T.out.later o) s
 have aj:=Hd a2;have ai:=Hd fun y (o:Below p.heap.size p y)=>bH (a1.out.later o) (a0.out.later o) a3 fun z hz=>a2 z (o.trans (hz.mono o.size))
 have ak:=Hd fun y (o:Below p.heap.size p y)=>Wa (p:=ag) (T.out.later o) a3
 have j:=Hd (Below.refl p.heap.size p);clear t a2 a3 a9 a8 P R U a6 a5 a0 T a1 C HM ab;generalize w4.heap.size+1=g at *;generalize JX ad s=ob at *;generalize LZ ad ah ag=q at *;by_cases h0:b=0
 ·subst h0
  cases ob<;>cases q
  all_goals
   go_wp2_with (first
     | (go_at_call 8;refine(HO.out _ j.out).mono ?_;rintro e J ⟨rfl,i⟩;replace j:=Hd (j.out.trans (i.mono j.out.size));clear i)
     | (go_at_call 9;refine(aa.out _ j.out).mono ?_;rintro e J ⟨rfl,i⟩;replace j:=Hd (j.out.trans (i.mono j.out.size));clear i)
     | (go_at_call 10;refine(aj.out _ j.out).mono ?_;rintro e J ⟨rfl,rfl⟩)
     | (go_at_call 11;refine(ai.out _ j.out).mono ?_;rintro e J ⟨rfl,i⟩;replace j:=Hd (j.out.trans (i.mono j.out.size));clear i)
     | (go_at_call 12;refine(ak.out _ j.out).mono ?_;rintro e J ⟨rfl,i⟩;replace j:=Hd (j.out.trans (i.mono j.out.size));clear i))
   go_ret;exact⟨rfl,l.out.trans (j.out.mono l.out.size)⟩
 ·have ao:(b != 0)=true:=by simpa using h0
  clear h0;cases ob
  all_goals
   go_wp2_with (first
     | (go_at_call 8;refine(HO.out _ j.out).mono ?_;rintro e J ⟨rfl,i⟩;replace j:=Hd (j.out.trans (i.mono j.out.size));clear i)
     | (go_at_call 9;refine(aa.out _ j.out).mono ?_;rintro e J ⟨rfl,i⟩;replace j:=Hd (j.out.trans (i.mono j.out.size));clear i))
   go_ret;exact⟨rfl,l.out.trans (j.out.mono l.out.size)⟩
section
open Go.ChangeShapes Go.WideShapes Go.ChangeAt Go.RowKit
def Z1(h:w.ShapedOpen Tryz.prog):G2 w:=
 Go.Proofs.cell_of_shapedOpen_int (zero:=#[.int .i64 0]) (t:=3) h (of_decide_eq_true nZ) nZ rfl nZ nZ underlying3
def ZQ{enc:TypeId×oV->H}{a:Assume}{C:Checked}{os:Os}{f:FuncId}{fn:Func}{s:ChangeSpec}{R:List PathCond}{apart fresh T P:Bool}{X:oU->Array oV->Prop}
  (hX:∀(w w':oU) (args:Array oV),w.heap=w'.heap->X w args->X w' args)
  (own:ownKnob C.prog.godebug=oN) (a9:os.Started) (a8:C.prog.inits.idxOf? f=oN) (a1:C.prog.funcs[f]?=oM fn)
  (aa:∃(w:oU) (l:Tape) (i:Input),w.os=os/\(w.forCall l i).Shaped C.prog/\i.vars=[]/\Input.okWide C.prog (w.forCall l i) .any w.heap.size f i /\
   ((s.pre enc C.prog fn R apart (w.forCall l i).memory i.args/\X (w.forCall l i).memory i.args)/\sizedMet enc C.prog fn (OpenSpec.ofChange s) apart (w.forCall l i).memory i.args)/\a.holds C.prog (lone (Frame.enter C.prog f i.args .normal) [] (w.forCall l i)))
  (U:∀(W:oU) (base:Nat) (args:Array oV) (p I:List (DataW H)) (o:List MemPlace),
   (∀(j:Nat) t v,fn.params[j]?=oM t->args[j]?=oM v->Value.okWide C.prog W .any base t v) ->
   DataW.Whole enc C.prog fn.params.toList s.vars apart W args.toList p I o->W.ShapedOpen C.prog->X W args ->
   Calls C.prog f args W fun e J=>∃v,e=.returned v/\s.post enc C.prog fn apart fresh T P W args v J) :
  ReturnsInHanded a C os f .any (fun w args=>(s.pre enc C.prog fn R apart w args/\X w args)/\sizedMet enc C.prog fn (OpenSpec.ofChange s) apart w args) (s.post enc C.prog fn apart fresh T P):=by
 refine returnsInHanded_of_calls own a9 a8 aa ?_;intro w l i _ a5 _ a3 a4 _;obtain⟨_,_,_,a0,a2,_,_,_,_,a6⟩:=a3;have e:a0=fn:=Option.some.inj (a2.symm.trans a1);subst e;obtain⟨⟨⟨p,I,o,hw,hc⟩,hx⟩,hz⟩:=a4;have a7:=DataW.Whole.of_heap (w':=w.forCall l i) oF hw;refine(U (w.forCall l i) w.heap.size i.args p I o a6 a7 a5 (hX _ _ _ oF hx)).mono fun e J ⟨v,he,hp⟩=>?_
 subst he;exact ChangeSpec.post_blind hp
def fU{enc:TypeId×oV->H}{A:Option Addr}{n c:Nat}{d:DataW H}{p:List MemPlace}(h:DataW.Trod enc Tryz.prog w 0 (fun _=>true) true 22 (oG A n c) d p):n<=c/\c<=maxLen/\(A=oN->c=0)/\∀k,k<n ->
  ∃b off,A=oM ⟨b,off,oN⟩/\b<w.heap.size/\∃x:Int,w.cell? ⟨b,off+k,oN⟩=oM (.int .i64 x):=by
 obtain⟨a5,hf⟩:=h;rcases Go.Deep.open_slice underlying22 hf with⟨e,-⟩|⟨a,len,cap,m,n',D,Pl,e,hb,hl,hm,R,-,J⟩
 ·simp only[Value.cells,List.cons.injEq,Value.slice.injEq]at e
  obtain⟨⟨rfl,rfl,rfl⟩,-⟩:=e;exact⟨Ay _,AX _,fun _=>rfl,fun k P=>absurd P (Nat.not_lt_zero k)⟩
 ·simp only[Value.cells,List.cons.injEq,Value.slice.injEq]at e
  obtain⟨⟨rfl,rfl,rfl⟩,-⟩:=e;refine⟨hl,hm,(fun e=>by cases e),fun k P=>?_⟩;obtain⟨a0,C,ht⟩:=J k (by rw[if_pos rfl]at R;omega);rw[show Tryz.prog.cellsOf 3=1 by kernel_rfl,Nat.mul_one]at C;obtain⟨_,a3,a1⟩:=World.cells?_some C
  match a0,a3 with
  | [v0],_=>
   have j:=a1 0 nX;simp only[List.getElem?_cons_zero]at j;obtain⟨K,t,-,-⟩:=DataW.trod_int underlying3 ht;simp only[List.cons.injEq,and_true]at t;subst t;have U:a.spot=oN:=by
    obtain⟨a4,I,-⟩:=J 0 (by rw[if_pos rfl]at R;omega);rw[show Tryz.prog.cellsOf 3=1 by kernel_rfl]at I;obtain⟨_,a6,a2⟩:=World.cells?_some I;have h0:=a2 0 nX;rw[eG nX,Nat.zero_mul,show a.add 0=a by unfold Addr.add;rw[if_pos rfl],show a.add 0=a by unfold Addr.add;rw[if_pos rfl]]at h0;unfold World.cell? at h0;split at h0
    ·split at h0
     ·cases h0
     ·rename_i T
      cases hh:a.spot with
      | none=>rfl
      | some x=>rw[hh]at T;exact absurd rfl T
    ·cases h0
   obtain⟨b,off,s⟩:=a;dsimp only at U;subst U;have l:∀o i,(⟨b,o,oN⟩:Addr).add i=⟨b,o+i,oN⟩:=fun o i=>by
    unfold Addr.add;split
    ·rename_i h0;simp_all
    ·rfl
   rw[l,l]at j;exact⟨b,off,rfl,World.block_lt_of_cell? w _ j,K,j⟩
def iQ:ownKnob Tryz.prog.godebug=oN:=by kernel_rfl
def XT:laidOutB Tryz.prog=true:=by kernel_rfl
def aD(os:Os)(a4:os.Started)(H:Type)(enc:TypeId×oV->H) :
  ReturnsInHanded {} Tryz.checked os 3 .any (fun w args=>(Rows.ruleOpensSpec.pre enc Tryz.prog Tryz.f3 Rows.ruleOpensRow.domain false w args/\laidMetH Tryz.prog Rows.ruleOpensRow.laid w)/\sizedMet enc Tryz.prog Tryz.f3 (OpenSpec.ofChange Rows.ruleOpensSpec) false w args)
   (Rows.ruleOpensSpec.post enc Tryz.prog Tryz.f3 false true false false):=by
 refine ZQ (C:=Tryz.checked) (X:=fun w _=>laidMetH Tryz.prog Rows.ruleOpensRow.laid w) (fun _ _ _ U h=>h.of_heap U) iQ a4 nZ func3
  (ChangeSpec.witness_shaped (enc:=enc) (C:=Tryz.checked) (os:=os) (X:=fun w _=>laidMetH Tryz.prog Rows.ruleOpensRow.laid w) false (World.laidAll Tryz.prog os Rows.ruleOpensRow.laid) #[oG oN 0 0,.string ByteArray.empty] 8 (World.laidAll_os _ _ _)
   (World.shaped_of_ZipB nZ nZ) nZ nZ nZ
   (by rw[MakeChecks.laidMetH_plain _ _ _ nZ];exact laidMet_laidAll _ nZ nZ)) ?_
 intro W base args p gs a5 a1 o a0 J;have i:∀(j:Nat) t v,Tryz.f3.params[j]?=oM t->args[j]?=oM v->Value.okWide Tryz.prog W .any base t v:=a1;have P:=o;obtain⟨a3,q,I,hV,rfl,a9,aa⟩:=o;have l:DataW.TrodAll enc Tryz.prog W 0 (fun _=>true) true Tryz.f3.params.toList args.toList p a3:=I;rw[params3]at l i;obtain⟨v0,ab,d0,a6,p0,q0,a8,rfl,rfl,h0,r0⟩:=trodAll_cons l;obtain⟨v1,ad,d1,a7,p1,q1,a2,rfl,rfl,C,r1⟩:=trodAll_cons r0;obtain⟨rfl,rfl,rfl⟩:=trodAll_nil r1;subst a2;obtain rfl:args=#[v0,v1]:=by cases args;simp_all
 obtain⟨rfl,rfl⟩:=trodVars_none hV;obtain⟨A,n,c,rfl⟩:=okWide_slice underlying22 (i 0 22 v0 rfl rfl);obtain⟨s,rfl,rfl,rfl,-⟩:=Go.ChangeMaps.open_string underlying9 (i 1 9 v1 rfl rfl) C;obtain⟨-,-,-,k4⟩:=fU h0;refine(ny (Z1 a0) (eB rfl J) k4 s).mono fun e W' ⟨T,R⟩=>?_
 subst T;exact⟨_,rfl,WM P rfl rfl rfl underlying4 XT (by decide +kernel) R (ok_one nZ rfl (okWide_bool_mk underlying4 _))⟩
def XZ:Rows.RuleOpensSaid:=
 OpenClaim.holds_of_wide 3 Tryz.f3 rfl rfl rfl rfl rfl rfl rfl ⟨rfl,rfl,rfl,rfl,rfl⟩ rfl rfl rfl rfl rfl nZ func3 nZ
  (of_decide_eq_true nZ) (by unfold Func.isWrapper;first|(rw[if_pos (by decide +kernel)];kernel_rfl)|(rw[if_neg (by decide +kernel)];exact⟨rfl,rfl⟩))
  (fun j l H i _=>aD j l H i)
theorem opens_holds:Rows.RuleOpensCardSaid:=
 Claim7.holds_tied_plain_at .later [] [.data,.data] true _ true
  XZ (fun _ h=>by cases h) nZ (fun _ h=>by cases h) ruleOpens_row_tie rfl ⟨rfl,rfl⟩ nZ rfl
  (fun f fn o p=>by
   obtain rfl:f=3:=Option.some.inj ((show Tryz.prog.funcNamed "conch/conchlaw31.RuleOpens"=oM 3 by kernel_rfl).symm.trans o) |>.symm;obtain rfl:fn=Tryz.f3:=(Option.some.inj (func3.symm.trans p)).symm;exact⟨nZ,fun j t i=>by
    rw[params3]at i;have C:t∈[22,9]:=by simpa using Array.mem_of_getElem? i
    have l:([22,9].all fun u=>!Tryz.prog.wantsStandIn u)=true:=by kernel_rfl
    exact(show Tryz.prog.wantsStandIn t=false by simpa using List.all_eq_true.1 l t C)⟩)
  nZ
#print axioms opens_holds
end
