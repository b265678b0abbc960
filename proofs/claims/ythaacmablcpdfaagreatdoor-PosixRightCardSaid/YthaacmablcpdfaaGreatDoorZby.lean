/- The builder. The builder. The builder. A grammar of a text. The grammar that has been read. The POSIX grammar. The program computes at all. -/
import Derived.Test.YthaacmablcpdfaaGreatDoorZbg
import Derived.Defers
import Derived.Recover
import Derived.Deep.DeepCutAuto
import Derived.Test.YthaacmablcpdfaaGreatDoorZal
import Derived.Test.YthaacmablcpdfaaGreatDoorZbe
import Derived.Test.YthaacmablcpdfaaGreatDoorNm
namespace Go.Proofs.YthaacmablcpdfaaGreatDoor
open Go.RowKit Go.Maps
set_option linter.unusedVariables false
theorem assert_nil(w:World):(Instr.typeAssert .nilIface 20 134 true).run Tryz.prog w=.ok (.tuple #[.agg #[.int .i64 0,.int .i64 0],.bool false]) w:=by kernel_rfl
theorem assert_wrong(e p:Int)(w:World):(Instr.typeAssert (.iface 134 (.agg #[.int .i64 e,.int .i64 p])) 20 134 true).run Tryz.prog w=.ok (.tuple #[.agg #[.int .i64 e,.int .i64 p],.bool true]) w:=by kernel_rfl
theorem neq_nil(w:World):(binOp .neq 20 .nilIface .nilIface).run Tryz.prog w=.ok (.bool false) w:=by kernel_rfl
theorem eql_nil(w:World):(binOp .eql 20 .nilIface .nilIface).run Tryz.prog w=.ok (.bool true) w:=by kernel_rfl
theorem neq_wrong(v:Value)(w:World):(binOp .neq 20 (.iface 134 v) .nilIface).run Tryz.prog w=.ok (.bool true) w:=by kernel_rfl
theorem eql_wrong(v:Value)(w:World):(binOp .eql 20 (.iface 134 v) .nilIface).run Tryz.prog w=.ok (.bool false) w:=by kernel_rfl
theorem postS_end{P:Program}{fn:Func}{c₀:Frame}{cs:List Frame}{R:Ending→FrameMode→World→Prop}{tmps:Array Value}{w:World}{u:FrameMode}(hr:fn.results=#[])(hu:c₀.mode=u)(h:R (.returned (.tuple #[])) u w):bodyPostS P fn c₀ cs R .normal {tmps:=tmps,defers:=[]} (c₀::cs) w:=
 ⟨rfl,u,by cases c₀;simp_all,_,results_none hr _ _ _,h⟩
theorem postS_panic{P:Program}{fn:Func}{c₀:Frame}{cs:List Frame}{R:Ending→FrameMode→World→Prop}{tmps:Array Value}{w:World}{u:FrameMode}{ch:List PanicEntry}(hu:c₀.mode=u)(h:R (.panicked ch) u w):bodyPostS P fn c₀ cs R (.panic ch) {tmps:=tmps,defers:=[]} (c₀::cs) w:=
 ⟨rfl,u,by cases c₀;simp_all,h⟩
theorem postS_panic2{P:Program}{fn:Func}{c₀:Frame}{cs:List Frame}{R:Ending→FrameMode→World→Prop}{tmps:Array Value}{w:World}{u:FrameMode}{ch:List PanicEntry}(h:R (.panicked ch) u w):bodyPostS P fn c₀ cs R (.panic ch) {tmps:=tmps,defers:=[]} ({c₀ with mode:=u}::cs) w:=
 ⟨rfl,u,rfl,h⟩
set_option maxRecDepth 100000 in
set_option maxHeartbeats 1600000 in
theorem heads1_ret{w:World}{hb bb n:Nat}(hc:w.cell? ⟨hb,0,none⟩=some (.pointer (some ⟨bb,0,none⟩)))(hn:n≤100000)
  (HS:∀w',Below w.heap.size w w'→Calls Tryz.prog 172 #[.pointer (some ⟨bb,0,none⟩)] w' fun e w''=>e=.returned (.int .i64 n)∧w''=w') :
  CallsD Tryz.prog 171 #[.pointer (some ⟨hb,0,none⟩)] .returning w fun e u' w'=>u'=.returning∧Below w.heap.size w w'∧e=if n≤8192 then .panicked [{v:=.iface 134 (.agg #[.int .i64 8,.int .i64 n]),recovered:=false}] else .returned (.tuple #[]):=by
 have hlt:hb<w.heap.size:=World.block_lt_of_cell? w _ hc;have a0:=assert_nil;have a1:=neq_nil;have a2:=eql_nil;have HB:=Hd (below_alloc w (.cells #[.int .i64 0,.int .i64 0] 134));have HS1:=Hd (HS _ (below_alloc w (.cells #[.int .i64 0,.int .i64 0] 134)));clear HS;by_cases h8:n≤8192
 ·have q1:(n:Int)≤8192:=by omega
  rw[if_pos h8];clear h8;refine callsD_of_wpS Tryz.func171 rfl fun c₀ cs hu=>?_
  simp only[Tryz.ntmps171,List.size_toArray,List.length_cons,List.length_nil,Nat.reduceAdd,Nat.reduceSub,Array.replicate_succ,Array.replicate_zero,List.push_toArray,List.append_toArray,List.nil_append,List.cons_append];apply wpS_seq;apply wpS_region;simp[wpOpsS,go_sem,recoverD,hu,Exit.thenS];refine wpS_of_wp ?_;have HU:=Hd hu;clear hu;go_wp2_with (first
   | (go_at_call 172;refine HS1.out.mono ?_;rintro e w' ⟨rfl,rfl⟩)
   | (go_at_call 173;refine(fail_any _ _ _).mono ?_;rintro e w' ⟨rfl,hw'⟩;subst hw'))
  exact postS_panic HU.out ⟨rfl,HB.out,rfl⟩
 ·have q1:¬(n:Int)≤8192:=by omega
  rw[if_neg h8];clear h8;refine callsD_of_wpS Tryz.func171 rfl fun c₀ cs hu=>?_
  simp only[Tryz.ntmps171,List.size_toArray,List.length_cons,List.length_nil,Nat.reduceAdd,Nat.reduceSub,Array.replicate_succ,Array.replicate_zero,List.push_toArray,List.append_toArray,List.nil_append,List.cons_append];apply wpS_seq;apply wpS_region;simp[wpOpsS,go_sem,recoverD,hu,Exit.thenS];refine wpS_of_wp ?_;have HU:=Hd hu;clear hu;go_wp2_with (first
   | (go_at_call 172;refine HS1.out.mono ?_;rintro e w' ⟨rfl,rfl⟩)
   | (go_at_call 173;refine(fail_any _ _ _).mono ?_;rintro e w' ⟨rfl,hw'⟩;subst hw'))
  exact postS_end rfl HU.out ⟨rfl,HB.out,rfl⟩
set_option maxRecDepth 100000 in
set_option maxHeartbeats 1600000 in
theorem heads1_pan{w:World}{hb bb n p:Nat}{k:Int}{older:List PanicEntry}(hc:w.cell? ⟨hb,0,none⟩=some (.pointer (some ⟨bb,0,none⟩)))(hn:n≤100000)
  (HS:∀w',Below w.heap.size w w'→Calls Tryz.prog 172 #[.pointer (some ⟨bb,0,none⟩)] w' fun e w''=>e=.returned (.int .i64 n)∧w''=w') :
  CallsD Tryz.prog 171 #[.pointer (some ⟨hb,0,none⟩)] (.panicking ({v:=.iface 134 (.agg #[.int .i64 k,.int .i64 p]),recovered:=false}::older)) w fun e u' w'=>u'=.panicking ({v:=.iface 134 (.agg #[.int .i64 k,.int .i64 p]),recovered:=true}::older)∧Below w.heap.size w w' ∧
   e=if n≤8192∧n<p then .panicked [{v:=.iface 134 (.agg #[.int .i64 8,.int .i64 n]),recovered:=false}] else .panicked [{v:=.iface 134 (.agg #[.int .i64 k,.int .i64 p]),recovered:=false}]:=by
 have hlt:hb<w.heap.size:=World.block_lt_of_cell? w _ hc;have a0:=assert_wrong;have a1:=neq_wrong;have a2:=eql_wrong;have hnot:∀(x:Bool) (w:World),(Op.unary .not (.bool x)).run Tryz.prog w=.ok (.bool (!x)) w:=fun _ _=>rfl
 have HB:=Hd (below_alloc w (.cells #[.int .i64 k,.int .i64 p] 134));have HS1:=Hd (HS _ (below_alloc w (.cells #[.int .i64 k,.int .i64 p] 134)));clear HS;by_cases h8:n≤8192
 ·have q1:(n:Int)≤8192:=by omega
  by_cases hp:n<p
  ·have q2:(n:Int)<(p:Int):=by omega
   rw[if_pos ⟨h8,hp⟩];clear h8 hp;refine callsD_of_wpS Tryz.func171 rfl fun c₀ cs hu=>?_
   simp only[Tryz.ntmps171,List.size_toArray,List.length_cons,List.length_nil,Nat.reduceAdd,Nat.reduceSub,Array.replicate_succ,Array.replicate_zero,List.push_toArray,List.append_toArray,List.nil_append,List.cons_append];apply wpS_seq;apply wpS_region;simp[wpOpsS,go_sem,recoverD,hu,Exit.thenS];refine wpS_of_wp ?_;have HU:=Hd hu;clear hu;go_wp2_with (first
    | (go_at_call 172;refine HS1.out.mono ?_;rintro e w' ⟨rfl,rfl⟩)
    | (go_at_call 173;refine(fail_any _ _ _).mono ?_;rintro e w' ⟨rfl,hw'⟩;subst hw'))
   exact postS_panic2 ⟨rfl,HB.out,rfl⟩
  ·have q2:¬(n:Int)<(p:Int):=by omega
   rw[if_neg (fun h=>hp h.2)];clear h8 hp;refine callsD_of_wpS Tryz.func171 rfl fun c₀ cs hu=>?_
   simp only[Tryz.ntmps171,List.size_toArray,List.length_cons,List.length_nil,Nat.reduceAdd,Nat.reduceSub,Array.replicate_succ,Array.replicate_zero,List.push_toArray,List.append_toArray,List.nil_append,List.cons_append];apply wpS_seq;apply wpS_region;simp[wpOpsS,go_sem,recoverD,hu,Exit.thenS];refine wpS_of_wp ?_;have HU:=Hd hu;clear hu;go_wp2_with (first
    | (go_at_call 172;refine HS1.out.mono ?_;rintro e w' ⟨rfl,rfl⟩)
    | (go_at_call 173;refine(fail_any _ _ _).mono ?_;rintro e w' ⟨rfl,hw'⟩;subst hw'))
   exact postS_panic2 ⟨rfl,HB.out,rfl⟩
 ·have q1:¬(n:Int)≤8192:=by omega
  rw[if_neg (fun h=>h8 h.1)];clear h8;refine callsD_of_wpS Tryz.func171 rfl fun c₀ cs hu=>?_
  simp only[Tryz.ntmps171,List.size_toArray,List.length_cons,List.length_nil,Nat.reduceAdd,Nat.reduceSub,Array.replicate_succ,Array.replicate_zero,List.push_toArray,List.append_toArray,List.nil_append,List.cons_append];apply wpS_seq;apply wpS_region;simp[wpOpsS,go_sem,recoverD,hu,Exit.thenS];refine wpS_of_wp ?_;have HU:=Hd hu;clear hu;go_wp2_with (first
   | (go_at_call 172;refine HS1.out.mono ?_;rintro e w' ⟨rfl,rfl⟩)
   | (go_at_call 173;refine(fail_any _ _ _).mono ?_;rintro e w' ⟨rfl,hw'⟩;subst hw'))
  exact postS_panic2 ⟨rfl,HB.out,rfl⟩
def GivesO(f:Flt)(e:Ending):Prop:=∃older:List PanicEntry,(older.all fun p=>!p.goexit)=true∧e=.panicked ({v:=.iface 134 (.agg #[.int .i64 f.1,.int .i64 f.2]),recovered:=false}::older)
def HEnd(w0 w:World)(bb tm nm rb:Nat)(tv nv gv:Value)(gs:List GNm)(r:Except Flt Bd)(e:Ending)(w':World):Prop:=
 Below w0.heap.size w0 w'∧match r with
 | .ok b=>e=.returned (.tuple #[])∧∃tv' nv' DT DN,BAt w0 w' bb tm nm rb tv' nv' gv b gs DT DN∧Chg (Mine bb tm nm tv nv) w w'
 | .error f=>GivesO f e
set_option maxRecDepth 100000 in
set_option maxHeartbeats 1600000 in
theorem bheads_any{w0 w:World}{bb tm nm rb:Nat}{tv nv gv:Value}{b:Bd}{gs:List GNm}{DT DN:DataW Unit}(h:BAt w0 w bb tm nm rb tv nv gv b gs DT DN){B mb:Nat}{tb:Option Nat}{l:List Tk}{x:Txt}{dv kv sv rv:Value}{rs:List GRu}{D:DataW Unit}(hr:Rules w0 B rb mb tb l x dv kv sv rv rs D)(hrl:rs.map GRu.r=x.rules)
  (hsame:x.marks.length=x.starts.length) (hsd:∀t∈x.decl,t.s.length≤8192) (hss:∀t∈x.starts,t.s.length≤8192) (hT:b.T=[]) (hsl:secondL x.marks≤100000) :
  Calls Tryz.prog 122 #[.pointer (some ⟨bb,0,none⟩)] w (HEnd w0 w bb tm nm rb tv nv gv gs (withT b (headsB x))):=by
 have HA1:=Hd (h.alloc (.cells #[.pointer (some ⟨bb,0,none⟩)] 141));have HX1:=Hd (Blk.new w 141 #[.pointer (some ⟨bb,0,none⟩)]);have HD:=Hd (declare_any HA1.out hr hrl hsame hsd hss);have HC1:=Hd ((Chg.refl (Mine bb tm nm tv nv) w).alloc (.cells #[.pointer (some ⟨bb,0,none⟩)] 141));have HR:=Hd hr;have HSL:=Hd hsl;rw[hT]at HD;have hmf:∀(fn:Fn) (first cap:Array Value) (w:World),(Instr.makeFunc fn first cap).run Tryz.prog w=.ok (.func fn first cap) w:=fun _ _ _ _=>rfl
 have hw1:w.heap.size<(w.alloc (.cells #[.pointer (some ⟨bb,0,none⟩)] 141)).heap.size:=by simp
 have p0:=HX1.out.cell 0;simp at p0;have HS:Hid (∀w2 b' tv' nv' DT DN,BAt w0 w2 bb tm nm rb tv' nv' gv b' gs DT DN→Chg (Mine bb tm nm tv nv) (w.alloc (.cells #[.pointer (some ⟨bb,0,none⟩)] 141)) w2→w2.cell? ⟨w.heap.size,0,none⟩=some (.pointer (some ⟨bb,0,none⟩))∧∀w',Below w2.heap.size w2 w'→Calls Tryz.prog 172 #[.pointer (some ⟨bb,0,none⟩)] w' fun e w''=>e=.returned (.int .i64 (secondL x.marks))∧w''=w'):=Hd (fun w2 b' tv' nv' DT DN ha hc=>by refine⟨(hc.blk HX1.out (mine_no HA1.out HX1.out (by decide) (by decide))).cell 0,fun w' hb=>?_⟩;have h2:=ha.chg (.of_below (X:=fun _=>False) hb) (fun _ _=>id);exact second_any (HR.out.later h2.below) h2.cells.1)
 clear h hr hsame hsd hss hT hsl hrl;cases hd:declL (leftOf x) (markT x) x.decl [] with
 | error f=>
  rw[hd]at HD;have HE:Hid (withT b (headsB x)=.error (if secondL x.marks≤8192∧secondL x.marks<f.2 then(8,secondL x.marks) else f)):=Hd (by unfold headsB;rw[hd];simp only;split<;>rfl);clear hd
  go_enter_defers Tryz.func122,Tryz.ntmps122
  go_wp2_with (go_at_call 174;refine HD.out.mono ?_;intro e w2 hx;obtain⟨b2,tv2,nv2,DT2,DN2,z1,z2,hx⟩:=hx;have hx:e=_:=hx;subst hx)
  obtain⟨y1,y2⟩:=HS.out _ _ _ _ _ _ z1 z2;refine leaves_cons (f:=171) (args:=#[.pointer (some ⟨w.heap.size,0,none⟩)]) (by simp) (by simp[go_sem]) ?_;refine(heads1_pan y1 HSL.out y2).mono ?_;rintro e u' w'' ⟨rfl,hb,he⟩;subst he;have hbw:=(z1.chg (.of_below (X:=fun _=>False) hb) (fun _ _=>id)).below;by_cases hh:secondL x.marks≤8192∧secondL x.marks<f.2
  ·rw[if_pos hh]
   rw[if_pos hh]at HE;simp only[raised,Leaves];refine⟨hbw,?_⟩;rw[HE.out];exact⟨_,rfl,rfl⟩
  ·rw[if_neg hh]
   rw[if_neg hh]at HE;simp only[raised,Leaves];refine⟨hbw,?_⟩;rw[HE.out];exact⟨_,rfl,rfl⟩
 | ok T=>
  rw[hd]at HD;have HE:Hid (withT b (headsB x)=if secondL x.marks≤8192 then .error (8,secondL x.marks) else .ok {b with T:=T}):=Hd (by unfold headsB;rw[hd];simp only;split<;>rfl);clear hd
  go_enter_defers Tryz.func122,Tryz.ntmps122
  go_wp2_with (go_at_call 174;refine HD.out.mono ?_;intro e w2 hx;obtain⟨b2,tv2,nv2,DT2,DN2,z1,z2,rfl,rfl⟩:=hx)
  obtain⟨y1,y2⟩:=HS.out _ _ _ _ _ _ z1 z2;refine leaves_cons (f:=171) (args:=#[.pointer (some ⟨w.heap.size,0,none⟩)]) (by simp) (by simp[go_sem]) ?_;refine(heads1_ret y1 HSL.out y2).mono ?_;rintro e u' w'' ⟨rfl,hb,he⟩;subst he;have hbw:=(z1.chg (.of_below (X:=fun _=>False) hb) (fun _ _=>id))
  by_cases hh:secondL x.marks≤8192
  ·rw[if_pos hh]
   rw[if_pos hh]at HE;simp only[raised,Leaves];refine⟨hbw.below,?_⟩;rw[HE.out];exact⟨_,rfl,rfl⟩
  ·rw[if_neg hh]
   rw[if_neg hh]at HE;simp only[settle,Leaves];refine⟨_,results_none rfl _ _ _,hbw.below,?_⟩;rw[HE.out];exact⟨rfl,_,_,_,_,hbw,(HC1.out.next z2).next (.of_below hb)⟩
structure RuG where
 left:Nat
 v:Value
 r:List Nat
def RuG.cells(q:RuG):List Value:=[.int .i64 q.left,q.v]
def RuG.g(q:RuG):Nat×List Nat:=(q.left,q.r)
theorem RuG.cells_len(q:RuG):q.cells.length=2:=rfl
theorem ElRu:El Tryz.prog 22 65 2 32:=El.of (z:=.agg #[.int .i64 0,.slice none 0 0]) Tryz.underlying22 (by kernel_rfl) rfl (by decide)
structure GAt(w0 w:World)(bb:Nat)(p1 p2 p3 tv nv gv Rv:Value)(b:Bd)(gs:List GNm)(R:List RuG)(st:Int):Prop where
 below:Below w0.heap.size w0 w
 blk:Blk w bb 144 #[p1,p2,p3,tv,nv,Rv,.int .i64 st,gv]
 ft:w.ownsRow w0.heap.size 9 1 tv b.T.length (b.T.map Nv)
 fn:w.ownsRow w0.heap.size 9 1 nv b.N.length (b.N.map Nv)
 fg:w.ownsRow w0.heap.size 30 1 gv gs.length (gs.map GNm.v)
 rows:∀q∈gs,w.ownsRow w0.heap.size 9 1 q.v q.l.length (q.l.map Nv)
 fR:w.ownsRow w0.heap.size 65 2 Rv R.length (R.flatMap RuG.cells)
 rights:∀q∈R,w.ownsRow w0.heap.size 3 1 q.v q.r.length (q.r.map Mark)
 names:gs.map GNm.l=b.R
 b0:w0.heap.size≤bb
 lt:b.T.length≤120
 ln:b.N.length≤120
 lr:b.R.length≤300
theorem GAt.of{w0 w:World}{bb tm nm rb:Nat}{tv nv gv:Value}{b:Bd}{gs:List GNm}{DT DN:DataW Unit}(h:BAt w0 w bb tm nm rb tv nv gv b gs DT DN):GAt w0 w bb (.pointer (some ⟨rb,0,none⟩)) (.map (some tm)) (.map (some nm)) tv nv gv (.slice none 0 0) b gs [] 0:=
 ⟨h.below,h.blk,h.ft,h.fn,h.fg,h.rows,World.ownsRow_nil _ _ _ _,(by simp),h.names,h.b0.1,h.lt,h.ln,h.lr⟩
namespace GAt
variable {w0 w:World} {bb:Nat} {p1 p2 p3 tv nv gv Rv:Value} {b:Bd} {gs:List GNm} {R:List RuG} {st:Int}
theorem later(h:GAt w0 w bb p1 p2 p3 tv nv gv Rv b gs R st){w':World}(hb:Below w.heap.size w w'):GAt w0 w' bb p1 p2 p3 tv nv gv Rv b gs R st:=by have hc:Chg (fun _=>False) w w':=.of_below hb;exact⟨h.below.trans (hb.mono h.below.size),hc.blk h.blk id,hc.own h.ft (fun _ _=>id),hc.own h.fn (fun _ _=>id),hc.own h.fg (fun _ _=>id),fun q hq=>hc.own (h.rows q hq) (fun _ _=>id),hc.own h.fR (fun _ _=>id),fun q hq=>hc.own (h.rights q hq) (fun _ _=>id),h.names,h.b0,h.lt,h.ln,h.lr⟩
theorem drew(h:GAt w0 w bb p1 p2 p3 tv nv gv Rv b gs R st):GAt w0 w.drew bb p1 p2 p3 tv nv gv Rv b gs R st:=h.later (drew_below w)
theorem cells(h:GAt w0 w bb p1 p2 p3 tv nv gv Rv b gs R st):w.cell? ⟨bb,0,none⟩=some p1∧w.cell? ⟨bb,3,none⟩=some tv∧w.cell? ⟨bb,4,none⟩=some nv∧w.cell? ⟨bb,5,none⟩=some Rv∧w.cell? ⟨bb,6,none⟩=some (.int .i64 st)∧w.cell? ⟨bb,7,none⟩=some gv∧bb<w.heap.size:=
 ⟨h.blk.cell 0,h.blk.cell 3,h.blk.cell 4,h.blk.cell 5,h.blk.cell 6,h.blk.cell 7,h.blk.lt⟩
theorem find(h:GAt w0 w bb p1 p2 p3 tv nv gv Rv b gs R st)(s:Nme):Calls Tryz.prog 125 #[.agg #[tv,nv,Rv,.int .i64 st],.string (str s)] w fun e w'=>e=.returned (.int .i64 (findL b.T b.N s))∧Below w.heap.size w w':=
 find_any h.ft h.fn h.lt h.ln s
theorem app(h:GAt w0 w bb p1 p2 p3 tv nv gv Rv b gs R st){w2:World}{o:Obj}{A2:Option Addr}{c2:Nat}{q:RuG}(hq:w.ownsRow w0.heap.size 3 1 q.v q.r.length (q.r.map Mark))
  (ho:w2.ownsRow w0.heap.size 65 2 (.slice A2 (R.length+1) c2) (R.length+1) (R.flatMap RuG.cells++q.cells))
  (hg:(w.alloc o).grownBy w2 Rv.ownBlock∧((Value.slice A2 (R.length+1) c2).ownBlock=Rv.ownBlock∨(Value.slice A2 (R.length+1) c2).ownBlock=some (w.alloc o).heap.size)) :
  GAt w0 (w2.setCell ⟨bb,5,none⟩ (.slice A2 (R.length+1) c2)) bb p1 p2 p3 tv nv gv (.slice A2 (R.length+1) c2) b gs (R++[q]) st∧Chg (fun k=>Rv.ownBlock=some k∨k=bb) w (w2.setCell ⟨bb,5,none⟩ (.slice A2 (R.length+1) c2)):=by
 have hX:Chg (fun k=>Rv.ownBlock=some k) w w2:=((Chg.refl _ w).alloc o).next (.of_grown hg.1);have hY:Chg (fun k=>Rv.ownBlock=some k∨k=bb) w (w2.setCell ⟨bb,5,none⟩ (.slice A2 (R.length+1) c2)):=(hX.mono (fun i hi=>.inl hi)).set (p:=⟨bb,5,none⟩) (.inr (.inr rfl)) _;have e1:¬Rv.ownBlock=some bb:=row_blk h.fR h.blk (by decide);have hbb:=h.blk.lt;have hrow:∀{e:TypeId} {n:Nat} {v:Value} {xs:List Value},w.ownsRow w0.heap.size e 1 v n xs→e≠65→e≠144→(w2.setCell ⟨bb,5,none⟩ (.slice A2 (R.length+1) c2)).ownsRow w0.heap.size e 1 v n xs:=by
  intro e n v xs hr h1 h2;refine hY.own hr ?_;rintro k hk (hh|rfl)
  ·exact own_apart hr h.fR h1 k hk hh
  ·exact row_blk hr h.blk h2 hk
 refine⟨⟨?_,by simpa using(hX.blk h.blk e1).set_ 5 (.slice A2 (R.length+1) c2),hrow h.ft (by decide) (by decide),hrow h.fn (by decide) (by decide),hrow h.fg (by decide) (by decide),fun q hq=>hrow (h.rows q hq) (by decide) (by decide),?_,?_,h.names,h.b0,h.lt,h.ln,h.lr⟩,hY⟩
 ·refine h.below.trans (hY.below h.below.size ?_)
  rintro k hk (hh|hh)
  ·have:=(own_ge h.fR k hh).1;omega
  ·have:=h.b0;omega
 ·rw[show (R++[q]).length=R.length+1 by simp,List.flatMap_append]
  refine own_far (by simpa using ho) ?_ _;intro e;rcases hg.2 with e2|e2
  ·exact e1 (e2▸e)
  ·rw[e2]at e;injection e with e;simp at e;omega
 ·intro u hu
  rcases mA.1 hu with hu|hu
  ·exact hrow (h.rights u hu) (by decide) (by decide)
  ·rw[mS.1 hu];exact hrow hq (by decide) (by decide)
theorem start(h:GAt w0 w bb p1 p2 p3 tv nv gv Rv b gs R st)(s:Int):GAt w0 (w.setCell ⟨bb,6,none⟩ (.int .i64 s)) bb p1 p2 p3 tv nv gv Rv b gs R s∧Chg (fun k=>k=bb) w (w.setCell ⟨bb,6,none⟩ (.int .i64 s)):=by
 have hY:Chg (fun k=>k=bb) w (w.setCell ⟨bb,6,none⟩ (.int .i64 s)):=(Chg.refl (fun k=>k=bb) w).set (p:=⟨bb,6,none⟩) (.inr rfl) _;have hrow:∀{e:TypeId} {sz n:Nat} {v:Value} {xs:List Value},w.ownsRow w0.heap.size e sz v n xs→e≠144→(w.setCell ⟨bb,6,none⟩ (.int .i64 s)).ownsRow w0.heap.size e sz v n xs:=by intro e sz n v xs hr h2;refine hY.own hr ?_;rintro k hk rfl;exact row_blk hr h.blk h2 hk
 refine⟨⟨?_,by simpa using h.blk.set_ 6 (.int .i64 s),hrow h.ft (by decide),hrow h.fn (by decide),hrow h.fg (by decide),fun q hq=>hrow (h.rows q hq) (by decide),hrow h.fR (by decide),fun q hq=>hrow (h.rights q hq) (by decide),h.names,h.b0,h.lt,h.ln,h.lr⟩,hY⟩;refine h.below.trans (hY.below h.below.size ?_);rintro k hk hh;have:=h.b0;omega
end GAt
structure RAt(wi:World)(xb left:Nat)(xv:Value)(done:List Nat)(wr:World):Prop where
 below:Below wi.heap.size wi wr
 box:Blk wr xb 65 #[.int .i64 left,xv]
 own:wr.ownsRow wi.heap.size 3 1 xv done.length (done.map Mark)
 hx:wi.heap.size≤xb
namespace RAt
variable {wi wr:World} {xb left:Nat} {xv:Value} {done:List Nat}
theorem later(h:RAt wi xb left xv done wr){w':World}(hb:Below wr.heap.size wr w'):RAt wi xb left xv done w':=by have hc:Chg (fun _=>False) wr w':=.of_below hb;exact⟨h.below.trans (hb.mono h.below.size),hc.blk h.box id,hc.own h.own (fun _ _=>id),h.hx⟩
theorem app(h:RAt wi xb left xv done wr){w2:World}{o:Obj}{A2:Option Addr}{c2 s:Nat}
  (ho:w2.ownsRow wi.heap.size 3 1 (.slice A2 (done.length+1) c2) (done.length+1) (done.map Mark++[Mark s]))
  (hg:(wr.alloc o).grownBy w2 xv.ownBlock∧((Value.slice A2 (done.length+1) c2).ownBlock=xv.ownBlock∨(Value.slice A2 (done.length+1) c2).ownBlock=some (wr.alloc o).heap.size)) :
  RAt wi xb left (.slice A2 (done.length+1) c2) (done++[s]) (w2.setCell ⟨xb,1,none⟩ (.slice A2 (done.length+1) c2)):=by
 have hX:Chg (fun k=>xv.ownBlock=some k) wr w2:=((Chg.refl _ wr).alloc o).next (.of_grown hg.1);have hY:Chg (fun k=>xv.ownBlock=some k∨k=xb) wr (w2.setCell ⟨xb,1,none⟩ (.slice A2 (done.length+1) c2)):=(hX.mono (fun i hi=>.inl hi)).set (p:=⟨xb,1,none⟩) (.inr (.inr rfl)) _;have e1:¬xv.ownBlock=some xb:=row_blk h.own h.box (by decide);have hxb:=h.box.lt;refine⟨?_,by simpa using(hX.blk h.box e1).set_ 1 (.slice A2 (done.length+1) c2),?_,h.hx⟩
 ·refine h.below.trans (hY.below h.below.size ?_)
  rintro k hk (hh|hh)
  ·have:=(own_ge h.own k hh).1;omega
  ·have:=h.hx;omega
 ·rw[show (done++[s]).length=done.length+1 by simp,mpA]
  refine own_far ho ?_ _;intro e;rcases hg.2 with e2|e2
  ·exact e1 (e2▸e)
  ·rw[e2]at e;injection e with e;simp at e;omega
end RAt
def NoE(R:List (List Nme)):Prop:=∀r∈R,r≠[]∧r.length≤100001
theorem syms_R{lf:Nme→Bool}:∀(l:List Tk) (k:Nat) {b b':Bd},symsB lf b k l=.ok b'→b'.R=b.R
 | [],k,b,b',h=>by injection h with h;rw[h]
 | t::l,k,b,b',h=>by
  unfold symsB at h;cases hs:symbolB lf b t k with
  | error f=>rw[hs]at h;cases h
  | ok b2=>
   rw[hs]at h;rw[syms_R l (k+1) h];unfold symbolB at hs;split at hs
   ·cases hs
   split at hs
   ·injection hs with hs;rw[←hs]
   split at hs
   ·split at hs
    ·cases hs
    ·injection hs with hs;rw[←hs]
   split at hs
   ·injection hs with hs;rw[←hs]
   ·cases hs
theorem side_E{lf:Nme→Bool}{b b':Bd}{left:Nme}{s:PS}(hl:s.l.length≤100000)(h0:NoE b.R)(h:sideB lf b left s=.ok b'):NoE b'.R:=by
 unfold sideB at h;split at h
 ·cases h
 cases hs:symsB lf b 0 s.l with
 | error f=>rw[hs]at h;cases h
 | ok b2=>
  rw[hs]at h;simp only at h;split at h
  ·cases h
  ·injection h with h
   rw[←h];intro r hr;rcases mA.1 hr with hr|hr
   ·rw[syms_R _ _ hs]at hr;exact h0 r hr
   ·rw[mS.1 hr];simp;omega
theorem left_E{D:Nat}{b b':Bd}{t:Tk}(h:leftB D b t=.ok b'):b'.R=b.R:=by
 unfold leftB at h;split at h
 ·cases h
 split at h
 ·injection h with h;rw[←h]
 split at h
 ·cases h
 ·injection h with h;rw[←h]
structure Has(w0 w:World)(tv nv Rv:Value)(g:PG)(R:List RuG):Prop where
 ft:w.ownsRow w0.heap.size 9 1 tv g.T.length (g.T.map Nv)
 fn:w.ownsRow w0.heap.size 9 1 nv g.N.length (g.N.map Nv)
 fR:w.ownsRow w0.heap.size 65 2 Rv R.length (R.flatMap RuG.cells)
 rights:∀q∈R,w.ownsRow w0.heap.size 3 1 q.v q.r.length (q.r.map Mark)
 r:R.map RuG.g=g.R
def GEnd(w0:World)(r:Except Flt PG)(e:Ending)(w':World):Prop:=
 Below w0.heap.size w0 w'∧match r with
 | .ok g=>∃tv nv Rv R,e=.returned (.agg #[tv,nv,Rv,.int .i64 g.s])∧Has w0 w' tv nv Rv g R
 | .error f=>GivesO f e
theorem rule_cells{w:World}{B:Nat}{g:Nat}{c:Nat}{l:List GRu}{k:Nat}{q:GRu}(h:w.ownsRow B 208 4 (.slice (some ⟨g,0,none⟩) l.length c) l.length (l.flatMap GRu.cells))(ht:l[k]?=some q) :
  w.cell? ⟨g,k*4,none⟩=some (.int .i64 q.left.k)∧w.cell? ⟨g,k*4+1,none⟩=some (.string (str q.left.s))∧w.cell? ⟨g,k*4+2,none⟩=some (.int .i64 q.left.p)∧w.cell? ⟨g,k*4+3,none⟩=some q.v:=by
 obtain⟨hk,hx⟩:=sG.1 ht;have hg:∀j,j<4→(l.flatMap GRu.cells)[k*4+j]?=(GRu.cells q)[j]?:=fun j hj=>by rw[fm_get GRu.cells 4 (fun _=>rfl) l k j hk hj,hx]
 have e0:=own_cell h (k*4) (by omega);have e1:=own_cell h (k*4+1) (by omega);have e2:=own_cell h (k*4+2) (by omega);have e3:=own_cell h (k*4+3) (by omega);rw[e0,e1,e2,e3,hg 1 (by omega),hg 2 (by omega),hg 3 (by omega)];have:=hg 0 (by omega);rw[Nat.add_zero]at this;rw[this];exact⟨rfl,rfl,rfl,rfl⟩
theorem side_cells{w:World}{B:Nat}{g:Nat}{c:Nat}{l:List GS}{k:Nat}{q:GS}(h:w.ownsRow B 211 2 (.slice (some ⟨g,0,none⟩) l.length c) l.length (l.flatMap GS.cells))(ht:l[k]?=some q) :
  w.cell? ⟨g,k*2,none⟩=some q.v∧w.cell? ⟨g,k*2+1,none⟩=some (.int .i64 q.s.p):=by
 obtain⟨hk,hx⟩:=sG.1 ht;have hg:∀j,j<2→(l.flatMap GS.cells)[k*2+j]?=(GS.cells q)[j]?:=fun j hj=>by rw[fm_get GS.cells 2 (fun _=>rfl) l k j hk hj,hx]
 have e0:=own_cell h (k*2) (by omega);have e1:=own_cell h (k*2+1) (by omega);rw[e0,e1,hg 1 (by omega)];have:=hg 0 (by omega);rw[Nat.add_zero]at this;rw[this];exact⟨rfl,rfl⟩
theorem drop_some{α:Type}{l:List α}{k:Nat}{a:α}(h:l[k]?=some a):l.drop k=a::l.drop (k+1):=by obtain⟨hk',e⟩:=sG.1 h;rw[List.drop_eq_getElem_cons hk',e]
theorem row_cap{w:World}{B n g c:Nat}{e:TypeId}{s:Nat}{xs:List Value}(h:w.ownsRow B e s (.slice (some ⟨g,0,none⟩) n c) n xs):n≤c∧c≤9223372036854775807:=by
 rcases own_form h with⟨h1,_⟩|⟨b,c2,h1,_,_,h2,h3,_⟩
 ·cases h1
 ·cases h1
  unfold maxLen at h3;exact⟨h2,by omega⟩
def ZG:Array Value:=#[.slice none 0 0,.slice none 0 0,.slice none 0 0,.int .i64 0]
theorem keep_blk{w0 w w':World}{bb tm nm rb g:Nat}{tv nv gv:Value}{b:Bd}{gs:List GNm}{DT DN:DataW Unit}{t:TypeId}{cs:Array Value}(h:BAt w0 w bb tm nm rb tv nv gv b gs DT DN)(hc:Chg (Mine bb tm nm tv nv) w w')(hb:Blk w g t cs)(h1:t≠144)(h2:t≠9):Blk w' g t cs:=hc.blk hb (mine_no h hb h1 h2)
theorem keep_blkG{w0 w w':World}{bb tm nm rb g:Nat}{tv nv gv:Value}{b:Bd}{gs:List GNm}{DT DN:DataW Unit}{t:TypeId}{cs:Array Value}(h:BAt w0 w bb tm nm rb tv nv gv b gs DT DN)(hc:Chg (MineG bb tm nm tv nv gv) w w')(hb:Blk w g t cs)(h1:t≠144)(h2:t≠9)(h3:t≠30):Blk w' g t cs:=hc.blk hb (mineG_no h hb h1 h2 h3)
theorem GAt.last{w0 w:World}{bb g0:Nat}{p1 p2 p3 tv nv gv Rv:Value}{b:Bd}{gs:List GNm}{R:List RuG}{st:Int}{g:PG}(h:GAt w0 w bb p1 p2 p3 tv nv gv Rv b gs R st)(hg:Blk w g0 32 ZG)(hg0:w0.heap.size≤g0)(hT:g.T=b.T)(hN:g.N=b.N)(hR:R.map RuG.g=g.R)(hs:(g.s:Int)=st)(u0 u1 u2 u3:Value) :
  GEnd w0 (.ok g) (.returned (.agg #[tv,nv,Rv,.int .i64 st])) ((((w.setCell ⟨g0,0,none⟩ u0).setCell ⟨g0,1,none⟩ u1).setCell ⟨g0,2,none⟩ u2).setCell ⟨g0,3,none⟩ u3):=by
 have hX:Chg (·=g0) w ((((w.setCell ⟨g0,0,none⟩ u0).setCell ⟨g0,1,none⟩ u1).setCell ⟨g0,2,none⟩ u2).setCell ⟨g0,3,none⟩ u3):=((((Chg.refl (·=g0) w).set (p:=⟨g0,0,none⟩) (.inr rfl) _).set (p:=⟨g0,1,none⟩) (.inr rfl) _).set (p:=⟨g0,2,none⟩) (.inr rfl) _).set (p:=⟨g0,3,none⟩) (.inr rfl) _;have hrow:∀{e:TypeId} {sz n:Nat} {v:Value} {xs:List Value},w.ownsRow w0.heap.size e sz v n xs→e≠32→World.ownsRow ((((w.setCell ⟨g0,0,none⟩ u0).setCell ⟨g0,1,none⟩ u1).setCell ⟨g0,2,none⟩ u2).setCell ⟨g0,3,none⟩ u3) w0.heap.size e sz v n xs:=by intro e sz n v xs hr he;refine hX.own hr ?_;rintro k hk rfl;exact row_blk hr hg he hk
 refine⟨h.below.trans (hX.below h.below.size (fun k hk e=>by omega)),tv,nv,Rv,R,by rw[hs],⟨?_,?_,hrow h.fR (by decide),fun q hq=>hrow (h.rights q hq) (by decide),hR⟩⟩
 ·rw[hT];exact hrow h.ft (by decide)
 ·rw[hN];exact hrow h.fn (by decide)
set_option maxRecDepth 100000 in
set_option maxHeartbeats 8000000 in
theorem build9_any{w0 w:World}{bb tm nm rb:Nat}{tv nv gv:Value}{DT DN:DataW Unit}(h:BAt w0 w bb tm nm rb tv nv gv ⟨[],[],[]⟩ [] DT DN){B mb:Nat}{tb:Option Nat}{l:List Tk}{x:Txt}{dv kv sv rv:Value}{rs:List GRu}{D:DataW Unit}(hr:Rules w0 B rb mb tb l x dv kv sv rv rs D)(hrl:rs.map GRu.r=x.rules)
  (hsame:x.marks.length=x.starts.length) (hsd:∀t∈x.decl,t.s.length≤8192) (hss:∀t∈x.starts,t.s.length≤8192) (hsl:secondL x.marks≤100000)
  (hsr:∀r∈rs,r.left.s.length≤8192∧∀q∈r.ss,(∀t∈q.s.l,t.s.length≤8192)∧q.s.l.length≤100000) :
  Calls Tryz.prog 69 #[.pointer (some ⟨bb,0,none⟩)] w (GEnd w0 (buildL x)):=by
 have HA0:=Hd (h.alloc (.cells ZG 32));have HG0:=Hd (Blk.new w 32 ZG);have HHD:=Hd (bheads_any HA0.out hr hrl hsame hsd hss rfl hsl);have hw0:=h.below.size;have hg0:w.heap.size<(w.alloc (.cells ZG 32)).heap.size:=by simp
 unfold ZG at HHD;have HCE:Hid (∀w',Below w0.heap.size w0 w'→w'.cell? ⟨rb,3,none⟩=some sv∧w'.cell? ⟨rb,4,none⟩=some rv):=Hd (fun w' hb=>by obtain⟨_,_,a3,a4,_,_⟩:=(hr.later hb).heads.stand.cells;exact⟨a3,a4⟩)
 obtain⟨As,cs,hsv⟩:=own_shape hr.heads.starts;obtain⟨Ar,cr,hrv⟩:=own_shape hr.rules;have HRL:Hid (∀k q,rs[k]?=some q→∃g c,rv=.slice (some ⟨g,0,none⟩) rs.length c∧∀w',Below w0.heap.size w0 w'→w'.cell? ⟨g,k*4,none⟩=some (.int .i64 q.left.k)∧w'.cell? ⟨g,k*4+1,none⟩=some (.string (str q.left.s))∧w'.cell? ⟨g,k*4+2,none⟩=some (.int .i64 q.left.p)∧w'.cell? ⟨g,k*4+3,none⟩=some q.v):=Hd (fun k t ht=>by obtain⟨hk,_⟩:=sG.1 ht;obtain⟨g,c,hv⟩:=row_some hr.rules (by omega);refine⟨g,c,hv,fun w' hw'=>?_⟩;have h2:=(Chg.of_below (X:=fun _=>False) hw').own hr.rules (fun _ _=>id);rw[hv]at h2;exact rule_cells h2 ht)
 have HSL:Hid (∀q∈rs,(∃A c,q.v=.slice A q.ss.length c)∧q.ss.length≤9223372036854775807∧∀j s,q.ss[j]?=some s→∃g c,q.v=.slice (some ⟨g,0,none⟩) q.ss.length c∧∀w',Below w0.heap.size w0 w'→w'.cell? ⟨g,j*2,none⟩=some s.v∧w'.cell? ⟨g,j*2+1,none⟩=some (.int .i64 s.s.p)):=Hd (fun q hq=>by have hgd:=(hr.good q hq).1;refine⟨own_shape hgd,(by have:=own_max hgd;unfold maxLen at this;omega),fun j s hs=>?_⟩;obtain⟨hk,_⟩:=sG.1 hs;obtain⟨g,c,hv⟩:=row_some hgd (by omega);refine⟨g,c,hv,fun w' hw'=>?_⟩;have h2:=(Chg.of_below (X:=fun _=>False) hw').own hgd (fun _ _=>id);rw[hv]at h2;exact side_cells h2 hs)
 have HST:Hid ((x.starts=[]∧x.starts.length=0)∨∃st r,x.starts=st::r∧(0:Int)<(x.starts.length:Int)∧∃g c,sv=.slice (some ⟨g,0,none⟩) x.starts.length c∧∀w',Below w0.heap.size w0 w'→w'.cell? ⟨g,1,none⟩=some (.string (str st.s))):=Hd (by
  cases hs:x.starts with
  | nil=>exact .inl ⟨rfl,rfl⟩
  | cons st r=>
   have hpos:0<x.starts.length:=by rw[hs];simp
   obtain⟨g,c,hv⟩:=row_some hr.heads.starts hpos;refine .inr ⟨st,r,rfl,by rw[←hs];omega,g,c,by rw[←hs];exact hv,fun w' hw'=>?_⟩;have h2:=(Chg.of_below (X:=fun _=>False) hw').own hr.heads.starts (fun _ _=>id);rw[hv]at h2;exact(tok_cells (k:=0) h2 (by rw[hs];rfl)).2.1)
 have hnr:rs.length≤100000:=by have:=hr.lr;omega
 have hns:x.starts.length≤100000:=by have:=hr.heads.ls;omega
 have HR:=Hd hr;have HX:=Hd hrl;have HSR:=Hd hsr;clear h hr hrl hsame hsd hss hsl hsr;subst hsv;subst hrv;generalize hnr0:rs.length=nr at *;generalize hns0:x.starts.length=ns at *;have HNR:=Hd hnr0;clear hnr0 hns0;cases hh:headsB x with
 | error f=>
  have HE:Hid (buildL x=.error f):=Hd (by unfold buildL;rw[hh]);rw[hh]at HHD;clear hh;go_enter Tryz.func69,Tryz.ntmps69
  go_wp2_with (go_at_call 122;refine HHD.out.mono ?_;rintro e w1 ⟨hb1,older,hol,rfl⟩)
  refine⟨rfl,hb1,?_⟩;rw[HE.out];exact⟨_,hol,rfl⟩
 | ok T=>
  rw[hh]at HHD;have HE1:Hid (∀r,rulesB (leftOf x) T.length ⟨T,[],[]⟩ x.rules=r→buildL x=match r with | .error f=>.error f | .ok b=>.ok (gramL x b)):=Hd (fun r hr=>by unfold buildL;rw[hh];simp only;rw[hr];cases r<;>rfl);clear hh;go_enter Tryz.func69,Tryz.ntmps69
  go_wp2_with (
         go_at_call 122;refine HHD.out.mono ?_;rintro e w1 ⟨hb1,rfl,tv1,nv1,DT1,DN1,z1,z2⟩
         have HA1:Hid (BAt w0 w1 bb tm nm rb tv1 nv1 gv ⟨T,[],[]⟩ [] DT1 DN1):=Hd z1;have HG1:Hid (Blk w1 w.heap.size 32 ZG):=Hd (keep_blk HA0.out z2 HG0.out (by decide) (by decide));have hg1:=HG1.out.lt;obtain⟨c0,c1,c2,c3,c4,c7,hbb⟩:=HA1.out.cells;obtain⟨k3,k4⟩:=HCE.out w1 HA1.out.below;obtain⟨At,ct,htv⟩:=own_shape HA1.out.ft;subst htv;clear z1 z2)
  generalize w.heap.size=g0 at *;clear c1 c2 c3 c4 c7 HHD HG0 HA0;have hTl:T.length≤120:=HA1.out.lt;go_loopw [29] (fun i wr=>∃(k:Nat) (b':Bd) (tv' nv' gv':Value) (gs':List GNm) (DT' DN':DataW Unit),k≤nr∧i=.int .i64 k∧Hid (BAt w0 wr bb tm nm rb tv' nv' gv' b' gs' DT' DN')∧Hid (Blk wr g0 32 ZG)∧Hid (rulesB (leftOf x) T.length ⟨T,[],[]⟩ x.rules=rulesB (leftOf x) T.length b' ((rs.drop k).map GRu.r))∧Hid (NoE b'.R)) (fun i _=>nr-(intOf i).toNat)
  case atStart=>exact⟨0,⟨T,[],[]⟩,_,nv1,gv,[],DT1,DN1,zeL _,rfl,HA1,HG1,Hd (by rw[←HX.out];rfl),Hd (fun r hr=>by cases hr)⟩
  case round=>
   rename World=>w9
   obtain⟨k,b',tv',nv',gv',gs',DT',DN',hk,rfl,HA,HG,HY,HN⟩:=hrel;by_cases hlt:k<nr
   ·obtain⟨q,hq⟩:∃q,rs[k]?=some q:=⟨_,eG (by rw[HNR.out];exact hlt)⟩
    obtain⟨g,c,hgv,hcell⟩:=HRL.out k q hq;obtain⟨e0,e1,e2,e3⟩:=hcell w9 HA.out.below;cases hgv
    have hqm:=mG hq;have HY1:Hid (rulesB (leftOf x) T.length ⟨T,[],[]⟩ x.rules=rulesB (leftOf x) T.length b' (q.r::(rs.drop (k+1)).map GRu.r)):=Hd (by rw[HY.out,drop_some hq];rfl);obtain⟨⟨Aq,cq,hqv⟩,hqn,hqc⟩:=HSL.out q hqm;have HQC:=Hd (fun j s hs=>by obtain⟨g,c,h1,h2⟩:=hqc j s hs;rw[hqv]at h1;exact(⟨g,c,h1,h2⟩:∃g c,Value.slice Aq q.ss.length cq=.slice (some ⟨g,0,none⟩) q.ss.length c∧∀w',Below w0.heap.size w0 w'→w'.cell? ⟨g,j*2,none⟩=some s.v∧w'.cell? ⟨g,j*2+1,none⟩=some (.int .i64 s.s.p)));rw[hqv]at e3;have HGD:=Hd (HR.out.good q hqm);obtain⟨hql,hqs⟩:=HSR.out q hqm
    have HQS:=Hd hqs;have HX1:=Hd (Blk.new w9 208 #[.int .i64 q.left.k,.string (str q.left.s),.int .i64 q.left.p,(.slice Aq q.ss.length cq)]);have HA1':=Hd (HA.out.alloc (.cells #[.int .i64 q.left.k,.string (str q.left.s),.int .i64 q.left.p,(.slice Aq q.ss.length cq)] 208));have HG1':Hid (Blk (w9.alloc (.cells #[.int .i64 q.left.k,.string (str q.left.s),.int .i64 q.left.p,(.slice Aq q.ss.length cq)] 208)) g0 32 ZG):=Hd (HG.out.alloc _);have HLE:=Hd (left_any HA1'.out q.left hql T.length (T.length:Int) rfl);have hbbr:=HA.out.cells;obtain⟨d0,_,_,_,_,_,hbbr⟩:=hbbr;clear hq hcell hqc hqs hqm hqv
    cases hle:leftB T.length b' q.left with
    | error f=>
     have HE:=Hd (HE1.out (.error f) (by rw[HY1.out,rulesB,ruleB,show q.r.left=q.left from rfl,hle]));rw[hle]at HLE;clear hle hql;go_wp2_with (go_at_call 123;refine HLE.out.mono ?_;intro e w2 hx;obtain⟨hb2,hx⟩:=hx;have hx:e=_:=hx;subst hx)
     refine⟨rfl,hb2,?_⟩;rw[HE.out];exact⟨_,rfl,rfl⟩
    | ok b2=>
     have HY2:Hid (rulesB (leftOf x) T.length ⟨T,[],[]⟩ x.rules=match sidesB (leftOf x) q.left.s b2 (q.ss.map GS.s) with | .error e=>.error e | .ok b'=>rulesB (leftOf x) T.length b' ((rs.drop (k+1)).map GRu.r)):=Hd (by rw[HY1.out,rulesB,ruleB,show q.r.left=q.left from rfl,hle];have e1:q.r.sides=q.ss.map GS.s:=rfl;simp only[e1];cases sidesB (leftOf x) q.left.s b2 (q.ss.map GS.s)<;>rfl)
     have HN2:Hid (NoE b2.R):=Hd (by rw[left_E hle];exact HN.out);rw[hle]at HLE;clear hle hql HY1;go_wp2_with (
             go_at_call 123;refine HLE.out.mono ?_;intro e w2 hx;obtain⟨hb2,rfl,tv2,nv2,DT2,DN2,z1,z2,z3,z4⟩:=hx
             have HA2:=Hd z1;have HG2:=Hd (keep_blk HA1'.out z2 HG1'.out (by decide) (by decide));have HX2:=Hd (keep_blk HA1'.out z2 HX1.out (by decide) (by decide));have x3:=HX2.out.cell 3;simp at x3;have hxl:=HX2.out.lt;clear hb2 z1 z2 z3 z4)
     have xl1:=HX2.out.cell 1;simp at xl1;generalize w9.heap.size=xb at *;generalize hnq:q.ss.length=nq at *;have HNQ:=Hd hnq;clear hnq x3 xl1 e0 e1 e2 e3 d0 c0 k3 k4 hxl;go_loopw [41] (fun j wy=>∃(m:Nat) (b3:Bd) (tv3 nv3 gv3:Value) (gs3:List GNm) (DT3 DN3:DataW Unit),m≤nq∧j=.int .i64 m∧Hid (BAt w0 wy bb tm nm rb tv3 nv3 gv3 b3 gs3 DT3 DN3)∧Hid (Blk wy g0 32 ZG)∧Hid (Blk wy xb 208 #[.int .i64 q.left.k,.string (str q.left.s),.int .i64 q.left.p,.slice Aq nq cq])∧Hid (rulesB (leftOf x) T.length ⟨T,[],[]⟩ x.rules=match sidesB (leftOf x) q.left.s b3 ((q.ss.drop m).map GS.s) with | .error e=>.error e | .ok b'=>rulesB (leftOf x) T.length b' ((rs.drop (k+1)).map GRu.r))∧Hid (NoE b3.R)) (fun j _=>nq-(intOf j).toNat)
     case atStart=>exact⟨0,b2,tv2,nv2,gv',gs',DT2,DN2,zeL _,rfl,HA2,HG2,HX2,HY2,HN2⟩
     case round=>
      obtain⟨m,b3,tv3,nv3,gv3,gs3,DT3,DN3,hm,rfl,HA3,HG3,HX3,HY3,HN3⟩:=hrel;by_cases hlt2:m<nq
      ·obtain⟨s,hs⟩:∃s,q.ss[m]?=some s:=⟨_,eG (by rw[HNQ.out];exact hlt2)⟩
       obtain⟨g2,c2,hgv2,hcell2⟩:=HQC.out m s hs;obtain⟨s0,s1⟩:=hcell2 wr HA3.out.below;cases hgv2
       have hsm:=mG hs;obtain⟨As2,cs2,hsv⟩:=own_shape (show w0.ownsRow B 201 3 s.v s.s.l.length (s.s.l.flatMap Tk.cells) from HGD.out.2 s hsm);rw[hsv]at s0;have HX4:=Hd (HX3.out.alloc (.cells #[.slice As2 s.s.l.length cs2,.int .i64 s.s.p] 211));have HG4:=Hd (HG3.out.alloc (.cells #[.slice As2 s.s.l.length cs2,.int .i64 s.s.p] 211));have HA4:=Hd (HA3.out.alloc (.cells #[.slice As2 s.s.l.length cs2,.int .i64 s.s.p] 211));have HBS:=Hd (bside_any HA4.out HR.out HX.out q.left.s s (HGD.out.2 s hsm) (HQS.out s hsm).1 (HQS.out s hsm).2);rw[hsv]at HBS;have x1:=HX3.out.cell 1
       simp at x1;have hxl:=HX3.out.lt;have HD3:=Hd (drop_some hs);have HSE:=Hd (fun b4 (h:sideB (leftOf x) b3 q.left.s s.s=.ok b4)=>side_E (HQS.out s hsm).2 HN3.out h);clear hs hcell2 hsm hsv;generalize s.s.l.length=nsl at *;cases hsb:sideB (leftOf x) b3 q.left.s s.s with
       | error f=>
        have HE:=Hd (HE1.out (.error f) (by rw[HY3.out,HD3.out,List.map_cons,sidesB,hsb]));rw[hsb]at HBS;clear hsb;go_wp2_with (go_at_call 124;refine HBS.out.mono ?_;intro e w2 hx;obtain⟨hb2,hx⟩:=hx;have hx:e=_:=hx;subst hx)
        refine⟨rfl,hb2,?_⟩;rw[HE.out];exact⟨_,rfl,rfl⟩
       | ok b4=>
        have HY4:Hid (rulesB (leftOf x) T.length ⟨T,[],[]⟩ x.rules=match sidesB (leftOf x) q.left.s b4 ((q.ss.drop (m+1)).map GS.s) with | .error e=>.error e | .ok b'=>rulesB (leftOf x) T.length b' ((rs.drop (k+1)).map GRu.r)):=Hd (by rw[HY3.out,HD3.out,List.map_cons,sidesB,hsb]);have HN4:=Hd (HSE.out b4 hsb);rw[hsb]at HBS;clear hsb;go_wp2_with (
                go_at_call 124;refine HBS.out.mono ?_;intro e w2 hx;obtain⟨hb2,rfl,tv4,nv4,gv4,gs4,DT4,DN4,z1,z2,_,_,_⟩:=hx
                have HA5:=Hd z1;have HG5:=Hd (keep_blkG HA4.out z2 HG4.out (by decide) (by decide) (by decide));have HX5:=Hd (keep_blkG HA4.out z2 HX4.out (by decide) (by decide) (by decide));clear hb2 z1 z2)
        go_roundw
        case rel=>exact⟨m+1,b4,tv4,nv4,gv4,gs4,DT4,DN4,by omega,by go_num,HA5,HG5,HX5,HY4,HN4⟩
        case measure=>simp[intOf];omega
      ·obtain rfl:m=nq:=by omega
       have HYE:Hid (rulesB (leftOf x) T.length ⟨T,[],[]⟩ x.rules=rulesB (leftOf x) T.length b3 ((rs.drop (k+1)).map GRu.r)):=Hd (by rw[HY3.out,List.drop_of_length_le (by have:=HNQ.out;omega)];rfl);go_wp2;go_roundw
       case rel=>exact⟨k+1,b3,tv3,nv3,gv3,gs3,DT3,DN3,by omega,by go_num,HA3,HG3,HYE,HN3⟩
       case measure=>simp[intOf];omega
   ·obtain rfl:k=nr:=by omega
    have HE:Hid (buildL x=.ok (gramL x b')):=Hd (HE1.out (.ok b') (by rw[HY.out,List.drop_of_length_le (by have:=HNR.out;omega)];rfl));have hgl:gs'.length≤300:=by have h1:=HA.out.names;have h2:=HA.out.lr;rw[←h1,lM]at h2;exact h2
    obtain⟨Ag,cg,hgv⟩:=own_shape HA.out.fg;subst hgv;have HGA:=Hd (GAt.of HA.out);obtain⟨d0,_,_,_,_,d7,hbbr⟩:=HA.out.cells;have HNE:Hid (∀u∈gs',∃a r,u.l=a::r∧r.length≤100000):=Hd (fun u hu=>by
     have:=HN.out u.l (by rw[←HA.out.names];exact List.mem_map_of_mem hu);cases hl:u.l with
     | nil=>exact absurd hl this.1
     | cons a r=>exact⟨a,r,rfl,by have h2:=this.2;rw[hl]at h2;simp at h2;omega⟩)
    have HNM:Hid (gs'.map GNm.l=b'.R):=Hd HA.out.names;generalize hng:gs'.length=ng at *;have HNG:=Hd hng;clear hng hlt HA HN HE1;go_wp2;clear d0 d7 c0 k3 k4 hbb;go_loopg [58] ng (fun n i wx=>∃(k:Nat) (R:List RuG) (Rv:Value),n=ng-k∧k≤ng∧i=.int .i64 k∧Hid (GAt w0 wx bb (.pointer (some ⟨rb,0,none⟩)) (.map (some tm)) (.map (some nm)) tv' nv' (.slice Ag ng cg) Rv b' gs' R 0)∧Hid (Blk wx g0 32 ZG)∧Hid (R.map RuG.g=(b'.R.take k).map (ruleL2 b'.T b'.N)))
    case atStart=>exact⟨0,[],_,rfl,zeL _,rfl,HGA,HG,Hd rfl⟩
    case round=>
     rename World=>w8
     obtain⟨k,R,Rv,hgh,hk,rfl,HB,HG2,HRR⟩:=hrel;obtain⟨c0,c3,c4,c5,c6,c7,hbb⟩:=HB.out.cells;obtain⟨AR,cR,hRv⟩:=own_shape HB.out.fR;subst hRv;by_cases hlt:k<ng
     ·obtain⟨u,hu⟩:∃u,gs'[k]?=some u:=⟨_,eG (by rw[HNG.out];exact hlt)⟩
      have hum:=mG hu;obtain⟨a,ra,hul,hra8⟩:=HNE.out u hum;obtain⟨g,c,hgv⟩:=row_some HB.out.fg (by rw[HNG.out];omega);rw[HNG.out]at hgv;cases hgv
      have hfg:=HB.out.fg;rw[HNG.out]at hfg;have u0:=own_cell hfg k (by omega);rw[pG,hu]at u0;simp only[Option.map_some]at u0;have HUR:=Hd (HB.out.rows u hum);have hur:=HB.out.rows u hum;rw[hul]at hur;obtain⟨gu,cu,huv⟩:=row_some hur (by simp);rw[huv]at u0 hur;have HUC:Hid (∀w',Below w8.heap.size w8 w'→w'.cell? ⟨gu,0,none⟩=some (.string (str a))∧∀j s,ra[j]?=some s→w'.cell? ⟨gu,1+j,none⟩=some (.string (str s))):=Hd (fun w' hb=>by have h2:=(Chg.of_below (X:=fun _=>False) hb).own hur (fun _ _=>id);refine⟨own_cell h2 0 (by simp),fun j s hs=>?_⟩;obtain⟨hj,_⟩:=sG.1 hs;have:=own_cell h2 (1+j) (by simp;omega);rw[this,Nat.add_comm];simp only[List.map_cons,List.getElem?_cons_succ,pG,hs];rfl)
      have hmu:=own_max hur;obtain⟨hcu1,hcu2⟩:=row_cap hur;have HRN:Hid ((b'.R.take (k+1)).map (ruleL2 b'.T b'.N)=(b'.R.take k).map (ruleL2 b'.T b'.N)++[(findL b'.T b'.N a,ra.map (findL b'.T b'.N))]):=Hd (by
       have h1:b'.R[k]?=some (a::ra):=by rw[←HNM.out,pG,hu];exact congrArg some hul
       obtain⟨hk',e⟩:=sG.1 h1;rw[List.take_succ_eq_append_getElem hk',e,mpA];rfl)
      have HBD:=Hd HB.out.drew;have HFA:=Hd (HBD.out.find a);have HBZ:=Hd ((HB.out.later (below_alloc w8 (.cells #[.int .i64 0,.slice none 0 0] 65))).drew);have HFB:=Hd (HBZ.out.find a);have HWB:=Hd (Blk.new w8 65 #[.int .i64 0,.slice none 0 0]);obtain⟨v0,_⟩:=HUC.out w8 (Below.refl _ _);have hgu:=World.block_lt_of_cell? w8 _ v0;simp at hgu;have hru:(a::ra).length=ra.length+1:=rfl;rw[hru]at u0 hmu hcu1;unfold maxLen at hmu;have hn0:(0:Int)<((ra.length+1:Nat):Int):=by omega
      clear hur hu hum huv hul hfg hru HUR;generalize hnra:ra.length=na at *;have HNA:=Hd hnra;clear hnra;generalize hF:findL b'.T b'.N a=F at *;go_upto_region 16 with fail
      go_cut [9,10] (fun uv xp wz=>uv=.slice (some ⟨gu,0,none⟩) (na+1) cu∧∃xb:Nat,xp=.pointer (some ⟨xb,0,none⟩)∧Hid (RAt w8 xb F (.slice none 0 0) [] wz))
      case first=>
       go_region_law (
                go_simp;go_at_call 125;first
                | (
                 (with_reducible refine HFA.out.mono ?_);rintro e wi ⟨rfl,hbi⟩
                 have HWI:Hid (Below w8.heap.size w8 wi):=Hd ((drew_below w8).trans hbi);clear hbi)
                | (
                 (with_reducible refine HFB.out.mono ?_);rintro e wi ⟨rfl,hbi⟩
                 have HWI:Hid (Below w8.heap.size w8 wi):=Hd ((below_alloc w8 _).trans (((drew_below _).trans hbi).mono (by simp)));have HWK:Hid (Blk wi w8.heap.size 65 #[.int .i64 0,.slice none 0 0]):=Hd (HWB.out.below ((drew_below _).trans hbi) (by simp));have y0:=HWK.out.cell 0;have y1:=HWK.out.cell 1;have y2:=HWK.out.frozen 0;have y3:=HWK.out.frozen 1;simp at y0 y1;clear hbi))
       all_goals (
        go_wp2_with fail
        go_meet
        first
          | exact⟨rfl,_,rfl,Hd ⟨HWI.out.trans ((below_alloc wi _).mono HWI.out.size),Blk.new wi 65 #[.int .i64 F,.slice none 0 0],World.ownsRow_nil _ _ _ _,HWI.out.size⟩⟩
          | exact⟨rfl,_,rfl,Hd ⟨(((Chg.of_below (X:=fun _=>False) HWI.out).set (p:=⟨w8.heap.size,0,none⟩) (.inl (leR _)) _).set (p:=⟨w8.heap.size,1,none⟩) (.inl (leR _)) _).below (leR _) (fun _ _=>id),by simpa using(HWK.out.set_ 0 (.int .i64 F)).set_ 1 (.slice none 0 0),World.ownsRow_nil _ _ _ _,leR _⟩⟩)
      case rest=>
       obtain⟨rfl,xb,rfl,HRA⟩:=hcut;have HBW:=Hd (HB.out.later HRA.out.below);clear c0 c3 c4 c5 c6 c7 hbb v0 u0 HFA HFB HBZ HBD HWB;go_upto_region 17 with fail
       go_cut [9,72,73,74] (fun _ sw nw iw wy=>wy=wc∧nw=.int .i64 na∧iw=.int .i64 0∧∃ad cw,sw=.slice (some ad) na cw∧(0<na→ad=⟨gu,1,none⟩))
       case first=>
        go_wp2_with fail
        all_goals (
          go_wp2_with fail
          go_meet
          first
           | exact⟨rfl,rfl,rfl,_,_,rfl,fun _=>rfl⟩
           | exact⟨rfl,rfl,rfl,_,_,rfl,fun h=>by omega⟩)
       case rest=>
        obtain⟨rfl,rfl,rfl,ad,cw,rfl,had⟩:=hcut;have HAD:=Hd had;clear had hn0 hcu1 hcu2 hgu;have hw08:=HB.out.below.size;have hRl:R.length≤300:=by have h1:=congrArg List.length HRR.out;simp at h1;omega
        go_wp2;go_loopg [74] na (fun n i wy=>∃(j:Nat) (done:List Nat) (xv:Value),n=na-j∧j≤na∧i=.int .i64 j∧done.length=j∧Hid (RAt w8 xb F xv done wy)∧Hid (done=(ra.take j).map (findL b'.T b'.N)))
        case atStart=>exact⟨0,[],_,rfl,zeL _,rfl,rfl,HRA,Hd rfl⟩
        case round=>
          obtain⟨_,done,xv,hgh2,hj,rfl,rfl,HRA2,HDN⟩:=hrel;have HB9:=Hd (HB.out.later HRA2.out.below);have hw8r:=HRA2.out.below.size;obtain⟨Ax,cx,hxv⟩:=own_shape HRA2.out.own;subst hxv;obtain⟨c0,c3,c4,c5,c6,c7,hbb⟩:=HB9.out.cells;have y0:=HRA2.out.box.cell 0;have y1:=HRA2.out.box.cell 1;have hxl:=HRA2.out.box.lt;simp at y0 y1;by_cases hlt2:done.length<na
          ·obtain⟨t,ht⟩:∃t,ra[done.length]?=some t:=⟨_,eG (by rw[HNA.out];exact hlt2)⟩
           have e0:=(HUC.out wr HRA2.out.below).2 done.length t ht;obtain rfl:=HAD.out (by omega);have HDN2:Hid (done++[findL b'.T b'.N t]=(ra.take (done.length+1)).map (findL b'.T b'.N)):=Hd (by obtain⟨hk',e⟩:=sG.1 ht;have h1:=HDN.out;rw[List.take_succ_eq_append_getElem hk',e,mpA,←h1];rfl)
           have HFD:=Hd (HB9.out.drew.find t);have HRD:=Hd (HRA2.out.later (drew_below wr));clear ht;generalize hF2:findL b'.T b'.N t=F2 at *;go_wp2;go_region_law (first
            | (
              refine step_app ElIntR (.tmp 79) (.tmp 86) ?_ ?_ (base:=w8.heap.size) (n:=done.length) (m:=1) (N:=done.length+1) (v:=.slice Ax done.length cx) (src:=.slice (some ⟨wi.heap.size,0,none⟩) 1 1) (xs:=done.map Mark) (news:=[.int .i64 F2]) ?_ ?_ ?_ ?_ ?_ ?_ ?_ ?_ ?_
              ·rfl
              ·rfl
              ·rfl
              ·rfl
              ·exact HR3.out.own.alloc _
              ·exact src_int wi _
              ·rfl
              ·unfold maxLen;omega
              ·omega
              ·simp;omega
              intro A3 c3' w3 r1 r2 r3;have HF:=Hd (HR3.out.app (s:=F2) r1 r3);have hX:Chg (fun k=>(Value.slice Ax done.length cx).ownBlock=some k) wi w3:=((Chg.refl _ wi).alloc (.cells #[.int .i64 F2] 3)).next (.of_grown r3.1);have hk3:=hX.blk HR3.out.box (row_blk HR3.out.own HR3.out.box (by decide));have z1:=hk3.cell 1;have zf:=hk3.frozen 1;simp at z1;clear r1 r2 r3 hk3 hX)
            | (
              go_simp;go_at_call 125;refine HFD.out.mono ?_;rintro e wi ⟨rfl,hbi⟩;have HR3:=Hd (HRD.out.later hbi);have yi1:=HR3.out.box.cell 1;have hwi8:=HR3.out.below.size;have hwi9:=HR3.out.box.lt;simp at yi1;clear hbi))
           all_goals go_wp2
           all_goals go_roundg (na-(done.length+1))
           all_goals first
            | (case measure=>omega)
            | (case rel=>exact⟨done.length+1,done++[F2],_,rfl,by omega,by go_num,by simp,HF,HDN2⟩)
          ·obtain rfl:na=done.length:=by omega
           have HDE:Hid (done=ra.map (findL b'.T b'.N)):=Hd (by have h1:=HDN.out;rw[tkL (by have:=HNA.out;omega)]at h1;exact h1)
           have HBD:=Hd HB9.out.drew;have HRD:=Hd (HRA2.out.later (drew_below wr));have HGD2:=Hd ((HG2.out.below HRA2.out.below HG2.out.lt).drew);have HR2':Hid ((R++[(⟨F,.slice Ax done.length cx,done⟩:RuG)]).map RuG.g=(b'.R.take (k+1)).map (ruleL2 b'.T b'.N)):=Hd (by rw[mpA,HRR.out,HRN.out,←HDE.out];rfl)
           go_wp2;go_region_law (
                  refine step_app ElRu (.tmp 95) (.tmp 97) ?_ ?_ (base:=w0.heap.size) (n:=R.length) (m:=1) (N:=R.length+1) (v:=.slice AR R.length cR) (src:=.slice (some ⟨wr.heap.size,0,none⟩) 1 1) (xs:=R.flatMap RuG.cells) (news:=[.int .i64 F,.slice Ax done.length cx]) ?_ ?_ ?_ ?_ ?_ ?_ ?_ ?_ ?_
                  ·rfl
                  ·rfl
                  ·rfl
                  ·rfl
                  ·exact HBD.out.fR.alloc _
                  ·exact SrcOK.blk (c:=1) (Blk.new wr.drew 65 #[.int .i64 F,.slice Ax done.length cx]) rfl (by simp[Value.oneCell'])
                  ·rfl
                  ·unfold maxLen;omega
                  ·omega
                  ·simp;omega
                  intro A3 c3' w3 r1 r2 r3;have HF:=Hd (HBD.out.app (q:=⟨F,.slice Ax done.length cx,done⟩) (own_mono HRD.out.own hw08) r1 r3);have HG3:=Hd (HF.out.2.blk HGD2.out (by
                   rintro(hh|hh)
                   ·exact row_blk HBD.out.fR HGD2.out (by decide) hh
                   ·subst hh;exact Blk.ne_ HGD2.out HBD.out.blk (by decide) rfl))
                  have hX:Chg (fun k=>(Value.slice AR R.length cR).ownBlock=some k) wr.drew w3:=((Chg.refl _ wr.drew).alloc (.cells #[.int .i64 F,.slice Ax done.length cx] 65)).next (.of_grown r3.1);have hk3:=hX.blk HBD.out.blk (row_blk HBD.out.fR HBD.out.blk (by decide));have z5:=hk3.cell 5;have zf:=hk3.frozen 5;simp at z5;clear r1 r2 r3 hk3 hX)
           all_goals go_wp2
           all_goals go_roundg (ng-(k+1))
           all_goals first
            | (case measure=>omega)
            | (case rel=>exact⟨k+1,R++[⟨F,.slice Ax done.length cx,done⟩],_,rfl,by omega,by go_num,Hd HF.out.1,HG3,HR2'⟩)
     ·obtain rfl:k=ng:=by omega
      have HRE:Hid (R.map RuG.g=b'.R.map (ruleL2 b'.T b'.N)):=Hd (by have h1:=HRR.out;rw[tkL (by have h2:=HNM.out;have h3:=HNG.out;rw[←h2,lM];omega)]at h1;exact h1)
      obtain⟨AT,cT,hTv⟩:=own_shape HB.out.ft;subst hTv;obtain⟨AN,cN,hNv⟩:=own_shape HB.out.fn;subst hNv;have hTl2:=HB.out.lt;have HS1:=Hd (HB.out.start ((b'.T.length:Int)+1));have HG3:Hid (Blk (w8.setCell ⟨bb,6,none⟩ (.int .i64 ((b'.T.length:Int)+1))) g0 32 ZG):=Hd (HG2.out.far (p:=⟨bb,6,none⟩) (by rintro rfl;exact Blk.ne_ HG2.out HB.out.blk (by decide) rfl) _);have b6:=HB.out.blk.frozen 6;clear hgh hlt;go_upto_region 25 with fail
      clear c0 c3 c4 c5 c6 c7 hbb b6;generalize w8.setCell ⟨bb,6,none⟩ (.int .i64 ((b'.T.length:Int)+1))=wS at *;obtain⟨c0,c3,c4,c5,c6,c7,hbb⟩:=HS1.out.1.cells;obtain⟨k3,_⟩:=HCE.out wS HS1.out.1.below;have z0:=HG3.out.cell 0;have z1:=HG3.out.cell 1;have z2:=HG3.out.cell 2;have z3:=HG3.out.cell 3;have f0:=HG3.out.frozen 0;have f1:=HG3.out.frozen 1;have f2:=HG3.out.frozen 2;have f3:=HG3.out.frozen 3;simp[ZG]at z0 z1 z2 z3;rcases HST.out with⟨hst,rfl⟩|⟨st,sr,hst,hns0,g,c,hsv,hsc⟩
      ·have HLAST:=Hd (fun u0 u1 u2 u3=>GAt.last (g:=gramL x b') HS1.out.1 HG3.out hw0 rfl rfl HRE.out (by unfold gramL;rw[hst];simp) u0 u1 u2 u3)
       clear hst;go_wp2;refine bodyPost_ret (v:=.agg #[.slice AT b'.T.length cT,.slice AN b'.N.length cN,.slice AR R.length cR,.int .i64 ((b'.T.length:Int)+1)]) (by simp[results,Tryz.results69,go_sem,z0,z1,z2,z3]) rfl ?_;rw[HE.out];exact HLAST.out _ _ _ _
      ·cases hsv
       have hs1:=hsc wS HS1.out.1.below;have HFD:=Hd (HS1.out.1.drew.find st.s);have HGS:Hid ((gramL x b').s=findL b'.T b'.N st.s):=Hd (by unfold gramL;rw[hst]);have HGD2:=Hd HG3.out.drew;have HSD:=Hd HS1.out.1.drew;clear hst hsc;generalize findL b'.T b'.N st.s=F3 at *;go_wp2;go_region_law (
                go_simp;go_at_call 125;refine HFD.out.mono ?_;rintro e wf ⟨rfl,hbf⟩;have HF3:=Hd (HSD.out.later hbf);have HG4:=Hd (HGD2.out.below hbf HGD2.out.lt);have bf0:=HF3.out.cells.2.2.2.2.1;have bf6:=HF3.out.blk.frozen 6;clear hbf)
       all_goals have HS2:=Hd (HF3.out.start (F3:Int))
       all_goals have HG5:Hid (Blk (wf.setCell ⟨bb,6,none⟩ (.int .i64 (F3:Int))) g0 32 ZG):=Hd (HG4.out.far (p:=⟨bb,6,none⟩) (by rintro rfl;exact Blk.ne_ HG4.out HF3.out.blk (by decide) rfl) _)
       all_goals generalize wf.setCell ⟨bb,6,none⟩ (.int .i64 (F3:Int))=wT at *
       all_goals clear c0 c3 c4 c5 c6 c7 hbb k3 z0 z1 z2 z3 f0 f1 f2 f3 hs1 bf0 bf6
       all_goals obtain⟨c0,c3,c4,c5,c6,c7,hbb⟩:=HS2.out.1.cells
       all_goals have z0:=HG5.out.cell 0
       all_goals have z1:=HG5.out.cell 1
       all_goals have z2:=HG5.out.cell 2
       all_goals have z3:=HG5.out.cell 3
       all_goals have f0:=HG5.out.frozen 0
       all_goals have f1:=HG5.out.frozen 1
       all_goals have f2:=HG5.out.frozen 2
       all_goals have f3:=HG5.out.frozen 3
       all_goals simp[ZG]at z0 z1 z2 z3
       all_goals have HLAST:=Hd (fun u0 u1 u2 u3=>GAt.last (g:=gramL x b') HS2.out.1 HG5.out hw0 rfl rfl HRE.out (by rw[HGS.out]) u0 u1 u2 u3)
       all_goals go_wp2
       all_goals refine bodyPost_ret (v:=.agg #[.slice AT b'.T.length cT,.slice AN b'.N.length cN,.slice AR R.length cR,.int .i64 (F3:Int)]) (by simp[results,Tryz.results69,go_sem,z0,z1,z2,z3]) rfl ?_
       all_goals rw[HE.out]
       all_goals exact HLAST.out _ _ _ _
theorem postS_end2{P:Program}{fn:Func}{c₀:Frame}{cs:List Frame}{R:Ending→FrameMode→World→Prop}{tmps:Array Value}{w:World}{u:FrameMode}(hr:fn.results=#[])(h:R (.returned (.tuple #[])) u w):bodyPostS P fn c₀ cs R .normal {tmps:=tmps,defers:=[]} ({c₀ with mode:=u}::cs) w:=
 ⟨rfl,u,rfl,_,results_none hr _ _ _,h⟩
theorem blk_new2{W:World}{n:Nat}{t:TypeId}{cs:Array Value}(h:W.heap.size=n):Blk (W.alloc (.cells cs t)) n t cs:=h▸Blk.new W t cs
set_option maxRecDepth 100000 in
set_option maxHeartbeats 1600000 in
theorem parse1_ret{w:World}{gb eb:Nat} :
  CallsD Tryz.prog 66 #[.pointer (some ⟨gb,0,none⟩),.pointer (some ⟨eb,0,none⟩)] .returning w fun e u' w'=>e=.returned (.tuple #[])∧u'=.returning∧w'=w:=by
 have a2:=eql_nil;refine callsD_of_wpS Tryz.func66 rfl fun c₀ cs hu=>?_
 simp only[Tryz.ntmps66,List.size_toArray,List.length_cons,List.length_nil,Nat.reduceAdd,Nat.reduceSub,Array.replicate_succ,Array.replicate_zero,List.push_toArray,List.append_toArray,List.nil_append,List.cons_append];apply wpS_seq;apply wpS_region;simp[wpOpsS,go_sem,recoverD,hu,Exit.thenS];refine wpS_of_wp ?_;have HU:=Hd hu;clear hu;go_wp2;exact postS_end rfl HU.out ⟨rfl,rfl,rfl⟩
set_option maxRecDepth 100000 in
set_option maxHeartbeats 1600000 in
theorem parse1_pan{w:World}{gb eb:Nat}{k p:Int}{v:Value}{older:List PanicEntry}{z0 z1 z2 z3:Value}(hg:Blk w gb 32 #[z0,z1,z2,z3])(he:Blk w eb 81 #[v])(hk:k≠0) :
  CallsD Tryz.prog 66 #[.pointer (some ⟨gb,0,none⟩),.pointer (some ⟨eb,0,none⟩)] (.panicking ({v:=.iface 134 (.agg #[.int .i64 k,.int .i64 p]),recovered:=false}::older)) w fun e u' w'=>
   e=.returned (.tuple #[])∧u'=.panicking ({v:=.iface 134 (.agg #[.int .i64 k,.int .i64 p]),recovered:=true}::older)∧∃b,Blk w' b 204 #[.int .i64 k,.int .i64 p]∧Blk w' gb 32 ZG∧Blk w' eb 81 #[.iface 202 (.pointer (some ⟨b,0,none⟩))]∧Chg (fun i=>i=gb∨i=eb) w w':=by
 have a0:=assert_wrong;have a2:=eql_wrong;have hne:eb≠gb:=Blk.ne_ he hg (by decide);have hgl:=hg.lt;have hel:=he.lt;have c0:=hg.cell 0;have c1:=hg.cell 1;have c2:=hg.cell 2;have c3:=hg.cell 3;have f0:=hg.frozen 0;have f1:=hg.frozen 1;have f2:=hg.frozen 2;have f3:=hg.frozen 3;have d0:=he.cell 0;have df:=he.frozen 0;simp at c0 c1 c2 c3 d0;have hk0:(k==0)=false:=by simpa using hk
 have HG:=Hd hg;have HE:=Hd he;have HN:=Hd (fnew_at k hk0 p (w.alloc (.cells #[.int .i64 k,.int .i64 p] 134)));clear hg he hk hk0;refine callsD_of_wpS Tryz.func66 rfl fun c₀ cs hu=>?_
 simp only[Tryz.ntmps66,List.size_toArray,List.length_cons,List.length_nil,Nat.reduceAdd,Nat.reduceSub,Array.replicate_succ,Array.replicate_zero,List.push_toArray,List.append_toArray,List.nil_append,List.cons_append];apply wpS_seq;apply wpS_region;simp[wpOpsS,go_sem,recoverD,hu,Exit.thenS];refine wpS_of_wp ?_;have HU:=Hd hu;clear hu;go_wp2_with (go_at_call 67;refine HN.out.mono ?_;rintro e w' ⟨rfl,rfl⟩)
 refine postS_end2 rfl ⟨rfl,rfl,w.heap.size+1,blk_new2 (by simp),?_,?_,?_⟩
 ·simpa [ZG] using(((((((HG.out.set_ 0 (.slice none 0 0)).set_ 1 (.slice none 0 0)).set_ 2 (.slice none 0 0)).set_ 3 (.int .i64 0)).far (p:=⟨eb,0,none⟩) (by simpa using Ne.symm hne) (.iface 202 (.pointer (some ⟨w.heap.size+1,0,none⟩)))).alloc (.cells #[.int .i64 k,.int .i64 p] 134)).alloc (.cells #[.int .i64 k,.int .i64 p] 204))
 ·simpa using(((((((HE.out.far (p:=⟨gb,0,none⟩) hne (.slice none 0 0)).far (p:=⟨gb,1,none⟩) hne (.slice none 0 0)).far (p:=⟨gb,2,none⟩) hne (.slice none 0 0)).far (p:=⟨gb,3,none⟩) hne (.int .i64 0)).set_ 0 (.iface 202 (.pointer (some ⟨w.heap.size+1,0,none⟩)))).alloc (.cells #[.int .i64 k,.int .i64 p] 134)).alloc (.cells #[.int .i64 k,.int .i64 p] 204))
 ·exact(((((((Chg.refl (fun i=>i=gb∨i=eb) w).set (p:=⟨gb,0,none⟩) (.inr (.inl rfl)) _).set (p:=⟨gb,1,none⟩) (.inr (.inl rfl)) _).set (p:=⟨gb,2,none⟩) (.inr (.inl rfl)) _).set (p:=⟨gb,3,none⟩) (.inr (.inl rfl)) _).set (p:=⟨eb,0,none⟩) (.inr (.inr rfl)) _).alloc _).alloc _
theorem lies_own{w:World}{B:Nat}{v:Value}{l:List Tk}(h:w.ownsRow B 201 3 v l.length (l.flatMap Tk.cells))(hl:0<l.length):Lies w v l:=by
 rcases h.2 with⟨_,h0⟩|⟨g,cap,cur,rfl,h1,h2,h3,h4,h5,h6⟩
 ·omega
 ·refine⟨g,0,cap,cur,rfl,⟨h2,⟨h3,h4⟩,fun k t ht=>?_⟩⟩
  obtain⟨hk,hx⟩:=sG.1 ht;have hg:∀j,j<3→cur[0+k*3+j]?=(Tk.cells t)[j]?:=fun j hj=>by have e:=fm_get Tk.cells 3 Tk.cells_len l k j hk hj;rw[hx]at e;rw[←e,←h6,List.getElem?_take,if_pos (by omega),Nat.zero_add];simp
  have e0:=hg 0 (by omega);rw[Nat.add_zero]at e0;exact⟨e0,hg 1 (by omega),hg 2 (by omega)⟩
def PEnd(w:World)(r:Except Flt PG)(e:Ending)(w':World):Prop:=
 Below w.heap.size w w'∧match r with
 | .ok g=>∃tv nv Rv R,e=.returned (.tuple #[.agg #[tv,nv,Rv,.int .i64 g.s],.nilIface])∧Has w w' tv nv Rv g R
 | .error f=>∃v,e=.returned (.tuple #[.agg #[.slice none 0 0,.slice none 0 0,.slice none 0 0,.int .i64 0],v])∧ErrAt w' v f
theorem Has.mono{w w0 w':World}{tv nv Rv:Value}{g:PG}{R:List RuG}(h:Has w0 w' tv nv Rv g R)(hb:w.heap.size≤w0.heap.size):Has w w' tv nv Rv g R:=
 ⟨own_mono h.ft hb,own_mono h.fn hb,own_mono h.fR hb,fun q hq=>own_mono (h.rights q hq) hb,h.r⟩
theorem Has.chg{X:Nat→Prop}{w w0 w':World}{tv nv Rv:Value}{g:PG}{R:List RuG}(h:Has w0 w tv nv Rv g R)(hc:Chg X w w')(hx:∀k,w0.heap.size≤k→¬X k):Has w0 w' tv nv Rv g R:=
 ⟨hc.own h.ft (fun k hk=>hx k (own_ge h.ft k hk).1),hc.own h.fn (fun k hk=>hx k (own_ge h.fn k hk).1),hc.own h.fR (fun k hk=>hx k (own_ge h.fR k hk).1),fun q hq=>hc.own (h.rights q hq) (fun k hk=>hx k (own_ge (h.rights q hq) k hk).1),h.r⟩
theorem neq_err(v:Value)(w:World):(binOp .neq 81 (.iface 202 v) .nilIface).run Tryz.prog w=.ok (.bool true) w:=by kernel_rfl
theorem neq_err_nil(w:World):(binOp .neq 81 .nilIface .nilIface).run Tryz.prog w=.ok (.bool false) w:=by kernel_rfl
theorem make_map(w:World):(Instr.makeMap 137 none).run Tryz.prog w=.ok (.map (some w.heap.size)) (w.alloc (.map #[] 0)):=by kernel_rfl
theorem drop_goexit{older:List PanicEntry}(h:(older.all fun p=>!p.goexit)=true):older.dropWhile (fun x=>!x.goexit)=[]:=by
 induction older with
 | nil=>rfl
 | cons a r ih=>simp only[List.all_cons,Bool.and_eq_true]at h;rw[List.dropWhile_cons,if_pos h.1,ih h.2]
set_option maxRecDepth 100000 in
set_option maxHeartbeats 3200000 in
theorem parse_any(s:ByteArray)(hs:s.size≤4611686018427387904)(w:World)(hm:HasMax w):Calls Tryz.prog 29 #[.string s] w (PEnd w (parseL s.data.toList)):=by
 have hmf:∀(fn:Fn) (first cap:Array Value) (w:World),(Instr.makeFunc fn first cap).run Tryz.prog w=.ok (.func fn first cap) w:=fun _ _ _ _=>rfl
 have n1:=neq_err;have n2:=neq_err_nil;have hmk:=make_map;have hbA:Below w.heap.size w ((w.alloc (.cells ZG 32)).alloc (.cells #[.nilIface] 81)):=(below_alloc w _).alloc (by simp) _;have HALL:=Hd (all_any s hs ((w.alloc (.cells ZG 32)).alloc (.cells #[.nilIface] 81)) (hm.later hbA));have HGA:Hid (Blk ((w.alloc (.cells ZG 32)).alloc (.cells #[.nilIface] 81)) w.heap.size 32 ZG):=Hd ((Blk.new w 32 ZG).alloc _);have HEA:Hid (Blk ((w.alloc (.cells ZG 32)).alloc (.cells #[.nilIface] 81)) (w.heap.size+1) 81 #[.nilIface]):=Hd (blk_new2 (by simp));have HBA:=Hd hbA;have hwA:w.heap.size+1<((w.alloc (.cells ZG 32)).alloc (.cells #[.nilIface] 81)).heap.size:=by simp
 clear hbA hm;cases ht:tokens s.data.toList with
 | error f=>
  have HE:Hid (parseL s.data.toList=.error f):=Hd (by unfold parseL;rw[ht]);rw[ht]at HALL;clear ht
  go_enter_defers Tryz.func29,Tryz.ntmps29
  go_wp2_with (
      go_at_call 65;refine HALL.out.mono ?_;intro e w1 hx;obtain⟨hb1,v,rfl,b,rfl,hbk⟩:=hx
      have HG1:=Hd (HGA.out.below hb1 HGA.out.lt);have HE1:=Hd (HEA.out.below hb1 HEA.out.lt);have HF1:=Hd hbk;have HB1:=Hd (HBA.out.trans (hb1.mono HBA.out.size));have d0:=HE1.out.cell 0;have df:=HE1.out.frozen 0;simp at d0;clear hb1 hbk)
  generalize hgb:w.heap.size=gb at *;generalize heb:gb+1=eb at *;have hne:eb≠gb:=by omega
  have HG2:=Hd (HG1.out.far (p:=⟨eb,0,none⟩) (Ne.symm hne) (.iface 202 (.pointer (some ⟨b,0,none⟩))));have HE2:Hid (Blk (w1.setCell ⟨eb,0,none⟩ (.iface 202 (.pointer (some ⟨b,0,none⟩)))) eb 81 #[.iface 202 (.pointer (some ⟨b,0,none⟩))]):=Hd (by simpa using HE1.out.set_ 0 (.iface 202 (.pointer (some ⟨b,0,none⟩))));have HF2:=Hd (HF1.out.far (p:=⟨eb,0,none⟩) (Blk.ne_ HF1.out HE1.out (by decide)) (.iface 202 (.pointer (some ⟨b,0,none⟩))));have HC2:=Hd ((Chg.of_below (X:=fun _=>False) (a:=w) (b:=w1) (by rw[hgb];exact HB1.out)).set (p:=⟨eb,0,none⟩) (.inl (by show w.heap.size≤eb;omega)) (.iface 202 (.pointer (some ⟨b,0,none⟩))))
  clear d0 df;generalize w1.setCell ⟨eb,0,none⟩ (.iface 202 (.pointer (some ⟨b,0,none⟩)))=w2 at *;have z0:=HG2.out.cell 0;have z1:=HG2.out.cell 1;have z2:=HG2.out.cell 2;have z3:=HG2.out.cell 3;have f0:=HG2.out.frozen 0;have f1:=HG2.out.frozen 1;have f2:=HG2.out.frozen 2;have f3:=HG2.out.frozen 3;have d0:=HE2.out.cell 0;have df:=HE2.out.frozen 0;simp[ZG]at z0 z1 z2 z3 d0
  go_region
  all_goals go_wp2
  all_goals simp only[bodyPostD,Leaves]
  all_goals refine⟨.tuple #[.agg #[.slice none 0 0,.slice none 0 0,.slice none 0 0,.int .i64 0],.iface 202 (.pointer (some ⟨b,0,none⟩))],by simp[results,Tryz.results29,go_sem,z0,z1,z2,z3,d0],?_⟩
  all_goals rw[HE.out]
  all_goals
   have hbg:b≠gb:=Blk.ne_ HF2.out HG2.out (by decide);have hbe:b≠eb:=Blk.ne_ HF2.out HE2.out (by decide);have hCC:=(((((HC2.out.set (p:=⟨gb,0,none⟩) (.inl (by show w.heap.size≤gb;omega)) (.slice none 0 0)).set (p:=⟨gb,1,none⟩) (.inl (by show w.heap.size≤gb;omega)) (.slice none 0 0)).set (p:=⟨gb,2,none⟩) (.inl (by show w.heap.size≤gb;omega)) (.slice none 0 0)).set (p:=⟨gb,3,none⟩) (.inl (by show w.heap.size≤gb;omega)) (.int .i64 0)).set (p:=⟨eb,0,none⟩) (.inl (by show w.heap.size≤eb;omega)) (.iface 202 (.pointer (some ⟨b,0,none⟩)))).drew;exact⟨hCC.below (leR _) (fun _ _=>id),_,rfl,b,rfl,(((((HF2.out.far (p:=⟨gb,0,none⟩) hbg _).far (p:=⟨gb,1,none⟩) hbg _).far (p:=⟨gb,2,none⟩) hbg _).far (p:=⟨gb,3,none⟩) hbg _).far (p:=⟨eb,0,none⟩) hbe _).drew⟩
 | ok ts=>
  have HTQ:=Hd (tokens_q ht);have HE1:Hid (∀r,formL ts=r→parseL s.data.toList=match r with | .error f=>.error f | .ok x=>buildL x):=Hd (fun r hr=>by unfold parseL;rw[ht];simp only;rw[hr];cases r<;>rfl);rw[ht]at HALL;clear ht
  go_enter_defers Tryz.func29,Tryz.ntmps29
  go_wp2_with (
      go_at_call 65;refine HALL.out.mono ?_;intro e w1 hx;obtain⟨hb1,v,rfl,hrow⟩:=hx
      have HG1:=Hd (HGA.out.below hb1 HGA.out.lt);have HEE:=Hd (HEA.out.below hb1 HEA.out.lt);have HB1:=Hd (HBA.out.trans (hb1.mono HBA.out.size));have HROW:=Hd hrow;obtain⟨A,c,hv⟩:=own_shape hrow;subst hv;have d0:=HEE.out.cell 0;have df:=HEE.out.frozen 0;have hel:=HEE.out.lt;simp at d0;clear hb1 hrow)
  generalize hgb:w.heap.size=gb at *;generalize heb:gb+1=eb at *;have hne:eb≠gb:=by omega
  have HG2:=Hd (HG1.out.far (p:=⟨eb,0,none⟩) (Ne.symm hne) .nilIface);have HE2:Hid (Blk (w1.setCell ⟨eb,0,none⟩ .nilIface) eb 81 #[.nilIface]):=Hd (by simpa using HEE.out.set_ 0 .nilIface);have HC2:=Hd ((Chg.of_below (X:=fun _=>False) (a:=w) (b:=w1) (by rw[hgb];exact HB1.out)).set (p:=⟨eb,0,none⟩) (.inl (by show w.heap.size≤eb;omega)) .nilIface);have HR2:=Hd (own_far HROW.out (p:=⟨eb,0,none⟩) (row_blk HROW.out HEE.out (by decide)) .nilIface);have hs2:(w1.setCell ⟨eb,0,none⟩ .nilIface).heap.size=w1.heap.size:=by simp
  clear d0 df hel;generalize w1.setCell ⟨eb,0,none⟩ .nilIface=w2 at *;rw[←hs2];clear hs2;have hts:0<ts.length:=by obtain⟨t,r,h⟩:=HTQ.out.ended.cons;rw[h];simp
  have hro:=own_ge HR2.out;have hgl2:=HG2.out.lt;have hel2:=HE2.out.lt;have hwA2:gb≤((w.alloc (.cells ZG 32)).alloc (.cells #[.nilIface] 81)).heap.size:=by simp;omega
  have HFO:=Hd (form_any (w:=(w2.alloc (.map #[] 0)).alloc (.cells #[.slice A ts.length c,.slice none 0 0,.slice none 0 0,.slice none 0 0,.slice none 0 0,.map (some w2.heap.size)] 140)) (B:=w2.heap.size+1+1) (rb:=w2.heap.size+1) (mb:=w2.heap.size) (tb:=(Value.slice A ts.length c).ownBlock) (l:=ts)
   ⟨⟨⟨_,blk_new2 (by simp),lies_own (((Chg.refl (fun _=>False) w2).alloc _ |>.alloc _).own HR2.out (fun _ _=>id)) hts,rfl⟩,HTQ.out.ended,fun e=>by have:=(hro _ e).2;omega⟩,World.ownsRow_nil _ _ _ _,World.ownsRow_nil _ _ _ _,World.ownsRow_nil _ _ _ _,(fun g hg=>by cases hg),by omega,(fun g hg=>by have:=(hro g hg).2;omega),by simp,by simpa using HTQ.out.len,by simpa using HTQ.out.len,by simpa using HTQ.out.len⟩
   (World.ownsMap.alloc (World.ownsMap_made w2 Tryz.prog 9 (plainElem Tryz.prog 3)) _) (by omega) (by omega) (fun u hu=>(HTQ.out.all u hu).1))
  have HG3:=Hd ((HG2.out.alloc (.map #[] 0)).alloc (.cells #[.slice A ts.length c,.slice none 0 0,.slice none 0 0,.slice none 0 0,.slice none 0 0,.map (some w2.heap.size)] 140));have HE3:=Hd ((HE2.out.alloc (.map #[] 0)).alloc (.cells #[.slice A ts.length c,.slice none 0 0,.slice none 0 0,.slice none 0 0,.slice none 0 0,.map (some w2.heap.size)] 140));have HC3:=Hd ((HC2.out.alloc (.map #[] 0)).alloc (.cells #[.slice A ts.length c,.slice none 0 0,.slice none 0 0,.slice none 0 0,.slice none 0 0,.map (some w2.heap.size)] 140));have hw22:w.heap.size≤w2.heap.size:=HC2.out.size;clear hro hwA2
  generalize (w2.alloc (.map #[] 0)).alloc (.cells #[.slice A ts.length c,.slice none 0 0,.slice none 0 0,.slice none 0 0,.slice none 0 0,.map (some w2.heap.size)] 140)=w3 at *;generalize w2.heap.size=mb at *;have HFQ:=Hd (form_q HTQ.out);refine HFO.out.mono ?_;intro e w4 hx;obtain⟨hc4,hx⟩:=hx;have HG4:=Hd (hc4.blk HG3.out (by omega));have HE4:=Hd (hc4.blk HE3.out (by omega));have HC4:Hid (Chg (fun _=>False) w w4):=Hd (HC3.out.trans hc4 (fun i hi h=>by omega));clear hc4;cases hf:formL ts with
  | error f=>
   have HE:=Hd (HE1.out _ hf);have hnz:=HFQ.out;rw[hf]at hnz hx;have hnz:((f.1:Nat):Int)≠0:=by have:f.1≠0:=hnz;omega
   have hx:e=_:=hx;subst hx;simp only[bodyPostD];refine leaves_cons (f:=66) (args:=#[.pointer (some ⟨gb,0,none⟩),.pointer (some ⟨eb,0,none⟩)]) (by simp) (by simp[go_sem]) ?_;refine(parse1_pan (show Blk w4 gb 32 #[.slice none 0 0,.slice none 0 0,.slice none 0 0,.int .i64 0] from HG4.out) HE4.out hnz).mono ?_;rintro e u' w7 ⟨rfl,rfl,b,y1,y2,y3,y4⟩;simp only[settle,List.dropWhile_nil,Leaves];have z0:=y2.cell 0;have z1:=y2.cell 1;have z2:=y2.cell 2;have z3:=y2.cell 3;have d0:=y3.cell 0;simp[ZG]at z0 z1 z2 z3 d0;refine⟨.tuple #[.agg #[.slice none 0 0,.slice none 0 0,.slice none 0 0,.int .i64 0],.iface 202 (.pointer (some ⟨b,0,none⟩))],by simp[results,Tryz.results29,go_sem,z0,z1,z2,z3,d0],?_⟩
   rw[HE.out];exact⟨(HC4.out.trans y4 (fun i hi h=>by omega)).below (leR _) (fun _ _=>id),_,rfl,b,rfl,y1⟩
  | ok x=>
   have HEB:=Hd (HE1.out _ hf);have hq:=HFQ.out;rw[hf]at hq hx;obtain⟨rfl,l',dv,kv,sv,rv,rs,D,hrs,hrul⟩:=hx;obtain⟨hxq,hrq⟩:=hq;have HRU:=Hd hrul;have HXQ:=Hd hxq;have HRS:=Hd hrs;have HSR:Hid (∀r∈rs,r.left.s.length≤8192∧∀q∈r.ss,(∀t∈q.s.l,t.s.length≤8192)∧q.s.l.length≤100000):=Hd (fun r hr=>by obtain⟨h1,h2⟩:=hrq r.r (by rw[←hrs];exact List.mem_map_of_mem hr);refine⟨h1.1,fun q hq=>?_⟩;have h3:=h2 q.s (List.mem_map_of_mem hq);exact⟨fun t ht=>(h3.1 t ht).1,h3.2⟩)
   clear hf hxq hrs hrul hrq HFQ HFO HG3 HE3;go_wp2_with fail
   have hBA:BAt w4 (((w4.alloc (.map #[] 0)).alloc (.map #[] 0)).alloc (.cells #[.pointer (some ⟨mb+1,0,none⟩),.map (some w4.heap.size),.map (some (w4.heap.size+1)),.slice none 0 0,.slice none 0 0,.slice none 0 0,.int .i64 0,.slice none 0 0] 144)) (w4.heap.size+1+1) w4.heap.size (w4.heap.size+1) (mb+1) (.slice none 0 0) (.slice none 0 0) (.slice none 0 0) ⟨[],[],[]⟩ [] (.map []) (.map []):=by
    refine⟨((((Chg.refl (fun _=>False) w4).alloc _).alloc _).alloc _).below (leR _) (fun _ _=>id),blk_new2 (by simp),World.ownsRow_nil _ _ _ _,World.ownsRow_nil _ _ _ _,World.ownsRow_nil _ _ _ _,rfl,(by simp),(fun k hk=>by cases hk),(by simp),(by simp),World.ownsMap.alloc (World.ownsMap.alloc (World.ownsMap_made w4 Tryz.prog 9 (plainElem Tryz.prog 3)) _) _,?_,Places.start,Places.start,⟨by omega,leR _,by omega⟩,by omega,by simp,by simp,by simp⟩;have h:=World.ownsMap_made (H:=Unit) (w4.alloc (.map #[] 0)) Tryz.prog 9 (plainElem Tryz.prog 3);rw[World.size_alloc]at h;exact h.alloc _
   have HBU:=Hd (build9_any hBA HRU.out HRS.out HXQ.out.same (fun t ht=>(HXQ.out.decl t ht).1) (fun t ht=>(HXQ.out.starts t ht).1) (second_q HXQ.out) HSR.out);clear hBA;refine HBU.out.mono ?_;intro e w6 hx;obtain⟨hb6,hx⟩:=hx;have HG6:=Hd (HG4.out.below hb6 HG4.out.lt);have HE6:=Hd (HE4.out.below hb6 HE4.out.lt);have HC6:Hid (Chg (fun _=>False) w w6):=Hd (HC4.out.next (.of_below hb6));have hw46:=hb6.size;have hw4:=HC4.out.size;have hg6:=HG6.out.lt;have he6:=HE6.out.lt;have hge4:gb<w4.heap.size∧eb<w4.heap.size:=⟨HG4.out.lt,HE4.out.lt⟩
   clear hb6;cases hbl:buildL x with
   | error f=>
    have HE:Hid (parseL s.data.toList=.error f):=Hd (by rw[HEB.out,←hbl]);have hnz:((f.1:Nat):Int)≠0:=by have:f.1≠0:=build_e hbl;omega
    rw[hbl]at hx;obtain⟨older,hol,rfl⟩:=hx;simp only[bodyPostD];refine leaves_cons (f:=66) (args:=#[.pointer (some ⟨gb,0,none⟩),.pointer (some ⟨eb,0,none⟩)]) (by simp) (by simp[go_sem]) ?_;refine(parse1_pan (show Blk w6 gb 32 #[.slice none 0 0,.slice none 0 0,.slice none 0 0,.int .i64 0] from HG6.out) HE6.out hnz).mono ?_;rintro e u' w7 ⟨rfl,rfl,b,y1,y2,y3,y4⟩;simp only[settle,drop_goexit hol,Leaves];have z0:=y2.cell 0;have z1:=y2.cell 1;have z2:=y2.cell 2;have z3:=y2.cell 3;have d0:=y3.cell 0;simp[ZG]at z0 z1 z2 z3 d0;refine⟨.tuple #[.agg #[.slice none 0 0,.slice none 0 0,.slice none 0 0,.int .i64 0],.iface 202 (.pointer (some ⟨b,0,none⟩))],by simp[results,Tryz.results29,go_sem,z0,z1,z2,z3,d0],?_⟩
    rw[HE.out];exact⟨(HC6.out.trans y4 (fun i hi h=>by omega)).below (leR _) (fun _ _=>id),_,rfl,b,rfl,y1⟩
   | ok g=>
    have HE:Hid (parseL s.data.toList=.ok g):=Hd (by rw[HEB.out,←hbl]);rw[hbl]at hx;obtain⟨tv,nv,Rv,R,rfl,hhas⟩:=hx;have HH:=Hd hhas;obtain⟨A1,c1,rfl⟩:=own_shape hhas.ft;obtain⟨A2,c2,rfl⟩:=own_shape hhas.fn;obtain⟨A3,c3,rfl⟩:=own_shape hhas.fR;have z0:=HG6.out.cell 0;have z1:=HG6.out.cell 1;have z2:=HG6.out.cell 2;have z3:=HG6.out.cell 3;have f0:=HG6.out.frozen 0;have f1:=HG6.out.frozen 1;have f2:=HG6.out.frozen 2;have f3:=HG6.out.frozen 3;have d0:=HE6.out.cell 0;have df:=HE6.out.frozen 0;simp[ZG]at z0 z1 z2 z3 d0;clear hbl hhas;go_wp2;have hcc:Chg (fun i=>i=gb∨i=eb) w6 (((((w6.setCell ⟨gb,0,none⟩ (.slice A1 g.T.length c1)).setCell ⟨gb,1,none⟩ (.slice A2 g.N.length c2)).setCell ⟨gb,2,none⟩ (.slice A3 R.length c3)).setCell ⟨gb,3,none⟩ (.int .i64 g.s)).setCell ⟨eb,0,none⟩ .nilIface):=
     (((((Chg.refl (fun i=>i=gb∨i=eb) w6).set (p:=⟨gb,0,none⟩) (.inr (.inl rfl)) _).set (p:=⟨gb,1,none⟩) (.inr (.inl rfl)) _).set (p:=⟨gb,2,none⟩) (.inr (.inl rfl)) _).set (p:=⟨gb,3,none⟩) (.inr (.inl rfl)) _).set (p:=⟨eb,0,none⟩) (.inr (.inr rfl)) _
    simp only[bodyPostD];refine leaves_cons (f:=66) (args:=#[.pointer (some ⟨gb,0,none⟩),.pointer (some ⟨eb,0,none⟩)]) (by simp) (by simp[go_sem]) ?_;refine parse1_ret.mono ?_;rintro e u' w7 ⟨rfl,rfl,rfl⟩;simp only[settle,Leaves];refine⟨.tuple #[.agg #[.slice A1 g.T.length c1,.slice A2 g.N.length c2,.slice A3 R.length c3,.int .i64 g.s],.nilIface],by simp[results,Tryz.results29,go_sem,z0,z1,z2,z3,d0],?_⟩;rw[HE.out];exact⟨(HC6.out.trans hcc (fun i hi h=>by omega)).below (leR _) (fun _ _=>id),_,_,_,R,rfl,(HH.out.chg hcc (fun k hk h=>by omega)).mono hw4⟩
theorem arr_own{α:Type}{E:α→Value}{w:World}{B:Nat}{e:TypeId}{v:Value}{l:List α}(h:w.ownsRow B e 1 v l.length (l.map E))(hl:l.length≤4611686018427387904):Arr E w v l:=by
 rcases own_form h with⟨rfl,h0⟩|⟨b,c,rfl,h1,h2,h3,h4,_⟩
 ·exact⟨⟨none,0,by rw[h0],fun k x hx=>by have:=(sG.1 hx).1;omega⟩,hl,fun A n c e=>by cases e;exact⟨leR _,fun _=>rfl⟩⟩
 ·refine⟨⟨_,c,rfl,fun k x hx=>⟨b,0,rfl,h2,?_⟩⟩,hl,fun A n c' e=>by cases e;exact⟨h3,fun e=>by cases e⟩⟩
  have hk:=(sG.1 hx).1;rw[Nat.zero_add,own_cell h k (by omega),pG,hx];rfl
def RuG.ru(q:RuG):Ru:=⟨(q.left:Nat),q.v,q.r.map fun n:Nat=>(n:Int)⟩
theorem rul_own{w:World}{B:Nat}{v:Value}{R:List RuG}(h:w.ownsRow B 65 2 v R.length (R.flatMap RuG.cells))(hr:∀q∈R,w.ownsRow B 3 1 q.v q.r.length (q.r.map Mark))(hl:R.length≤4611686018427387904)(h8:∀q∈R,q.r.length≤8):Rul w v (R.map RuG.ru):=by
 have hright:∀q∈R,Arr IntV w (RuG.ru q).v (RuG.ru q).right:=fun q hq=>by
  have h1:=hr q hq;have e:(RuG.ru q).right.length=q.r.length:=by unfold RuG.ru;simp
  refine arr_own (B:=B) (e:=3) ?_ (by rw[e];have:=h8 q hq;omega);rw[e];have e2:(RuG.ru q).right.map IntV=q.r.map Mark:=by unfold RuG.ru;rw[List.map_map];rfl
  rw[e2];exact h1
 rcases own_form h with⟨rfl,h0⟩|⟨b,c,rfl,h1,h2,h3,h4,_⟩
 ·refine⟨⟨none,0,by rw[lM,h0],fun k x hx=>?_⟩,by rw[lM];exact hl,fun A n c e=>by cases e;exact⟨leR _,fun _=>rfl⟩⟩
  have:=(sG.1 hx).1;rw[lM]at this;omega
 ·refine⟨⟨_,c,by rw[lM],fun k x hx=>⟨b,0,rfl,h2,?_⟩⟩,by rw[lM];exact hl,fun A n c' e=>by cases e;exact⟨h3,fun e=>by cases e⟩⟩
  rw[pG]at hx;obtain⟨q,hq,rfl⟩:=Option.map_eq_some_iff.1 hx;obtain⟨hk,hqe⟩:=sG.1 hq;have hg:∀j,j<2→(R.flatMap RuG.cells)[k*2+j]?=(RuG.cells q)[j]?:=fun j hj=>by rw[fm_get RuG.cells 2 RuG.cells_len R k j hk hj,hqe]
  have e0:=own_cell h (k*2) (by omega);have e1:=own_cell h (k*2+1) (by omega);have g0:=hg 0 (by omega);rw[Nat.add_zero]at g0;rw[g0]at e0;rw[hg 1 (by omega)]at e1;rw[Nat.zero_add];exact⟨e0,e1,hright q (mG hq)⟩
theorem name_short{s:Nme}(h:(okName s||quotedB s)=true):s.length≤1048576:=by
 rw[Bool.or_eq_true]at h;rcases h with h|h
 ·obtain⟨c,r,rfl,_,_,h24⟩:=name_parts h
  omega
 ·obtain⟨m,rfl,_,_,h23⟩:=quoted_parts h
  simp;omega
theorem like_has{w0 w:World}{tv nv Rv:Value}{g:PG}{R:List RuG}(h:Has w0 w tv nv Rv g R):Like g (R.map RuG.ru):=by
 refine⟨?_,fun r hr=>?_⟩
 ·rw[←h.r,List.map_map]
  refine List.map_congr_left fun q _=>?_
  unfold RuG.ru RuG.g;refine Prod.ext (by simp) ?_;simp only[Function.comp,List.map_map];exact(List.map_congr_left (fun a _=>by simp[Function.comp])).trans (List.map_id q.r)
 ·obtain⟨q,_,rfl⟩:=List.mem_map.1 hr
  refine⟨by unfold RuG.ru;simp,fun s hs=>?_⟩;obtain⟨n,_,rfl⟩:=List.mem_map.1 hs;omega
theorem has_right{w0 w:World}{tv nv Rv:Value}{g:PG}{R:List RuG}(h:Has w0 w tv nv Rv g R)(hg:g.Good):∀q∈R,q.r.length≤8:=fun q hq=>by have:=hg.g4 q.g (by rw[←h.r];exact List.mem_map_of_mem hq);exact this
theorem Has.gram{w0 w:World}{tv nv Rv:Value}{g:PG}{R:List RuG}(h:Has w0 w tv nv Rv g R)(hg:g.Good):GrR w (.agg #[tv,nv,Rv,.int .i64 g.s]) (Gm.ofP g (R.map RuG.ru)):=by
 have g1:=hg.g1;have g2:=hg.g2;have g3:=hg.g3;have h8:=has_right h hg;have hRl:R.length=g.R.length:=by rw[←h.r,lM]
 have hTm:(g.T.map str).map StrV=g.T.map Nv:=by rw[List.map_map];rfl
 have hNm:(g.N.map str).map StrV=g.N.map Nv:=by rw[List.map_map];rfl
 refine⟨⟨tv,nv,Rv,rfl,arr_own (B:=w0.heap.size) (e:=9) ?_ (by show (g.T.map str).length≤_;rw[lM];omega),arr_own (B:=w0.heap.size) (e:=9) ?_ (by show (g.N.map str).length≤_;rw[lM];omega),rul_own h.fR h.rights (by omega) h8⟩,?_,?_,?_,?_,?_,?_⟩
 ·show w.ownsRow w0.heap.size 9 1 tv (g.T.map str).length ((g.T.map str).map StrV)
  rw[lM,hTm];exact h.ft
 ·show w.ownsRow w0.heap.size 9 1 nv (g.N.map str).length ((g.N.map str).map StrV)
  rw[lM,hNm];exact h.fn
 ·intro s hs
  obtain⟨t,ht,rfl⟩:=List.mem_map.1 hs;rw[str_size];exact name_short (hg.g5 t ht)
 ·intro s hs
  obtain⟨t,ht,rfl⟩:=List.mem_map.1 hs;rw[str_size];exact name_short (by rw[hg.g6 t ht];rfl)
 ·show (g.T.map str).length≤_
  rw[lM];omega
 ·show (g.N.map str).length≤_
  rw[lM];omega
 ·show (R.map RuG.ru).length≤_
  rw[lM];omega
 ·intro r hr
  obtain⟨q,hq,rfl⟩:=List.mem_map.1 hr;have:=h8 q hq;show (q.r.map fun n:Nat=>(n:Int)).length≤_;rw[lM];omega
end Go.Proofs.YthaacmablcpdfaaGreatDoor
namespace Go.Proofs.YthaacmablcpdfaaGreatDoor
open Go.RowKit
set_option linter.unusedVariables false
def GramEnd(w:World)(e:Ending)(w':World):Prop:=Below w.heap.size w w'∧∃tv nv Rv R g,parseL posixT=.ok g∧posixB g=true∧e=.returned (.agg #[tv,nv,Rv,.int .i64 g.s])∧Has w w' tv nv Rv g R
theorem posix_size{s:ByteArray}(h:s.data.toList=posixT):s.size≤4611686018427387904:=by
 have:s.size=posixT.length:=by rw[←h];exact(Array.length_toList (xs:=s.data)).symm
 rw[this];have:posixT.length=2375:=by decide +kernel
 omega
theorem set4_blk{w:World}{b:Nat}{t:TypeId}{x0 x1 x2 x3 y0 y1 y2 y3:Value}(h:Blk w b t #[x0,x1,x2,x3]):Blk ((((w.setCell ⟨b,0,none⟩ y0).setCell ⟨b,1,none⟩ y1).setCell ⟨b,2,none⟩ y2).setCell ⟨b,3,none⟩ y3) b t #[y0,y1,y2,y3]:=by simpa using(((h.set_ 0 y0).set_ 1 y1).set_ 2 y2).set_ 3 y3
set_option maxRecDepth 1000000 in
set_option maxHeartbeats 3200000 in
theorem pGram_any{w:World}(hm:HasMax w):Calls Tryz.prog 7 #[] w (GramEnd w):=by
 obtain⟨g,hg,hb⟩:=posix_ok;have hbA:Below w.heap.size w (w.alloc (.cells ZG 32)):=below_alloc w _;have HP:Hid (∀s:ByteArray,s.data.toList=posixT→Calls Tryz.prog 29 #[.string s] (w.alloc (.cells ZG 32)) (PEnd (w.alloc (.cells ZG 32)) (.ok g))):=Hd (fun s hs=>by have h:=parse_any s (posix_size hs) (w.alloc (.cells ZG 32)) (hm.later hbA);rw[hs,hg]at h;exact h)
 have HG:=Hd (And.intro hg hb);clear hg hb hm hbA;unfold ZG at HP;go_enter Tryz.func7,Tryz.ntmps7
 go_wp2_with (go_at_call 29;refine(HP.out _ ?_).mono ?_)
 ·kernel_rfl
 rintro e w1 ⟨hb1,tv,nv,Rv,R,rfl,hhas⟩;have hsz:=hb1.size;simp at hsz;have hlt:w.heap.size<w1.heap.size:=by omega
 have ck0:Blk w1 w.heap.size 32 #[.slice none 0 0,.slice none 0 0,.slice none 0 0,.int .i64 0]:=(Blk.new w 32 _).below hb1 (by simp);have c0:=ck0.cell 0;have c1:=ck0.cell 1;have c2:=ck0.cell 2;have c3:=ck0.cell 3;have f0:=ck0.frozen 0;have f1:=ck0.frozen 1;have f2:=ck0.frozen 2;have f3:=ck0.frozen 3;simp at c0 c1 c2 c3;have HK:=Hd ck0;have HH:=Hd hhas;have HB:=Hd hb1;obtain⟨A1,c1',rfl⟩:=own_shape hhas.ft;obtain⟨A2,c2',rfl⟩:=own_shape hhas.fn;obtain⟨A3,c3',rfl⟩:=own_shape hhas.fR;clear hb1 hhas ck0;go_wp2;have hbk:=Hd ((set4_blk (y0:=.slice A1 g.T.length c1') (y1:=.slice A2 g.N.length c2') (y2:=.slice A3 R.length c3') (y3:=.int .i64 g.s) HK.out).alloc (.cells #[.slice A1 g.T.length c1',.slice A2 g.N.length c2',.slice A3 R.length c3',.int .i64 g.s] 32))
 have z0:=hbk.out.cell 0;have z1:=hbk.out.cell 1;have z2:=hbk.out.cell 2;have z3:=hbk.out.cell 3;simp only[show (#[Value.slice A1 g.T.length c1',.slice A2 g.N.length c2',.slice A3 R.length c3',.int .i64 g.s]:Array Value)[0]?=some (.slice A1 g.T.length c1') from rfl,show (#[Value.slice A1 g.T.length c1',.slice A2 g.N.length c2',.slice A3 R.length c3',.int .i64 g.s]:Array Value)[1]?=some (.slice A2 g.N.length c2') from rfl,show (#[Value.slice A1 g.T.length c1',.slice A2 g.N.length c2',.slice A3 R.length c3',.int .i64 g.s]:Array Value)[2]?=some (.slice A3 R.length c3') from rfl,show (#[Value.slice A1 g.T.length c1',.slice A2 g.N.length c2',.slice A3 R.length c3',.int .i64 g.s]:Array Value)[3]?=some (.int .i64 g.s) from rfl]at z0 z1 z2 z3
 refine bodyPost_ret (v:=.agg #[.slice A1 g.T.length c1',.slice A2 g.N.length c2',.slice A3 R.length c3',.int .i64 g.s]) (by simp[results,Tryz.results7,go_sem,z0,z1,z2,z3]) rfl ?_;have hX:Chg (fun k=>k=w.heap.size) w1 ((((((w1.setCell ⟨w.heap.size,0,none⟩ (.slice A1 g.T.length c1')).setCell ⟨w.heap.size,1,none⟩ (.slice A2 g.N.length c2')).setCell ⟨w.heap.size,2,none⟩ (.slice A3 R.length c3')).setCell ⟨w.heap.size,3,none⟩ (.int .i64 g.s)).alloc (.cells #[.slice A1 g.T.length c1',.slice A2 g.N.length c2',.slice A3 R.length c3',.int .i64 g.s] 32))):=
  (((((Chg.refl (fun k=>k=w.heap.size) w1).set (p:=⟨w.heap.size,0,none⟩) (.inr rfl) _).set (p:=⟨w.heap.size,1,none⟩) (.inr rfl) _).set (p:=⟨w.heap.size,2,none⟩) (.inr rfl) _).set (p:=⟨w.heap.size,3,none⟩) (.inr rfl) _).alloc _
 refine⟨((below_alloc w _).trans (HB.out.mono (by simp))).trans (hX.below (Nat.le_of_lt hlt) (fun k hk e=>by omega)),_,_,_,R,g,HG.out.1,HG.out.2,rfl,(HH.out.chg hX (fun k hk e=>by simp at hk;omega)).mono (by simp)⟩
theorem name_ofP{g:PG}{l:List Ru}{s:Int}{x:Nme}(h1:1≤s)(h:(g.T++g.N)[(s-1).toNat]?=some x):(Gm.ofP g l).name s=str x:=by
 have hlt:=(sG.1 h).1;rw[lnA]at hlt;have e:((Gm.ofP g l).T++(Gm.ofP g l).N)=(g.T++g.N).map str:=by show g.T.map str++g.N.map str=_;rw[mpA]
 unfold Gm.name;rw[if_neg (by omega),if_neg (by show ¬(s<1∨((g.T.map str).length:Int)+((g.N.map str).length:Int)<s);simp only[lM];omega),e,dG,pG,h];rfl
theorem below_drew3(w:World):Below w.heap.size w w.drew:=⟨rfl,rfl,rfl,leR _,fun _ _=>rfl⟩
theorem res_in:resI ⟨#[105,110]⟩=38:=by unfold resI;simp only[Lib.toList_data];decide +kernel
set_option maxRecDepth 100000 in
set_option maxHeartbeats 3200000 in
theorem awake_any{w:World}(hm:HasMax w)(ht:HasTabs w):Calls Tryz.prog 9 #[] w (fun e w'=>e=.returned (.bool true)∧Below w.heap.size w w'):=by
 have HP:=Hd (pGram_any hm);have HT:=Hd (fun y (hy:Below w.heap.size w y)=>ht.later hy);clear hm ht;go_enter Tryz.func9,Tryz.ntmps9
 go_wp2_with fail
 refine HP.out.mono ?_;rintro e w1 ⟨hb1,tv,nv,Rv,R,g,hg,hB,rfl,hhas⟩;have hgr:=Has.gram hhas (parse_good hg);unfold posixB at hB;simp only[Bool.and_eq_true,decide_eq_true_eq,beq_iff_eq]at hB;obtain⟨⟨⟨⟨hT38,hn1⟩,hn2⟩,hs1⟩,hs2⟩:=hB;clear hT38;obtain⟨S,hS⟩:∃S:Int,S=(g.s:Int):=⟨_,rfl⟩
 have e1:(Gm.ofP g (R.map RuG.ru)).name 18=str [39,60,60,45,39]:=name_ofP (by decide) hn1;have e2:(Gm.ofP g (R.map RuG.ru)).name S=str [117,110,105,116]:=name_ofP (by omega) (by rw[show (S-1).toNat=g.s-1 by omega];exact hn2);have HS0:Hid (-9223372036854775808≤S):=Hd (by omega);obtain⟨A1,c1,rfl⟩:=own_shape hhas.ft;obtain⟨A2,c2,rfl⟩:=own_shape hhas.fn;obtain⟨A3,c3,rfl⟩:=own_shape hhas.fR;rw[←hS]at hgr ⊢;generalize g.T.length=nT at *;generalize g.N.length=nN at *;generalize R.length=nR at *;generalize Gm.ofP g (R.map RuG.ru)=gm at hgr e1 e2;obtain⟨n1,hN1⟩:∃n1,n1=str [39,60,60,45,39]:=⟨_,rfl⟩
 obtain⟨n2,hN2⟩:∃n2,n2=str [117,110,105,116]:=⟨_,rfl⟩
 obtain⟨n3,hN3⟩:∃n3,n3=spT 23:=⟨_,rfl⟩
 rw[←hN1]at e1;rw[←hN2]at e2;have q1:(n1.toList==[39,60,60,45,39])=true:=by rw[hN1,Lib.toList_data];decide +kernel
 have q2:(n2.toList==[117,110,105,116])=true:=by rw[hN2,Lib.toList_data];decide +kernel
 have q3:(n3.toList==[105,102])=true:=by rw[hN3,Lib.toList_data];decide +kernel
 have HGR:=Hd hgr;have HE1:=Hd e1;have HE2:=Hd e2;have HE3:=Hd hN3;clear hhas hg hn1 hn2 hs1 hs2 hS e1 e2 hgr hN1 hN2 hN3;have HBX:=Hd (below_alloc w1 (.cells #[.slice A1 nT c1,.slice A2 nN c2,.slice A3 nR c3,.int .i64 S] 32));have HB3:=Hd (hb1.trans (HBX.out.mono hb1.size));have HF3:=Hd (Blk.new w1 32 #[.slice A1 nT c1,.slice A2 nN c2,.slice A3 nR c3,.int .i64 S]);have HG3:=Hd (HGR.out.later HBX.out);clear hb1;go_wp2_with fail
 generalize (w1.alloc (.cells #[.slice A1 nT c1,.slice A2 nN c2,.slice A3 nR c3,.int .i64 S] 32))=W at *;obtain⟨I,hI1,hI2⟩:∃I:World→Prop,(∀w',I w'→Below W.heap.size W w')∧(∀w',Below W.heap.size W w'→I w'):=⟨_,fun _ h=>h,fun _ h=>h⟩
 have hI:I W.drew:=hI2 _ (below_drew3 W);have hne:Nonempty (Wd I):=⟨⟨_,hI⟩⟩
 have XI:=Hd (fun x:Wd I=>hI1 _ x.ok);have XJ:=Hd hI2;clear hI1 hI2;have g0:=fun y:Wd I=>(HF3.out.below (XI.out y) HF3.out.lt).cell 0
 have g1:=fun y:Wd I=>(HF3.out.below (XI.out y) HF3.out.lt).cell 1
 have g2:=fun y:Wd I=>(HF3.out.below (XI.out y) HF3.out.lt).cell 2
 have g3:=fun y:Wd I=>(HF3.out.below (XI.out y) HF3.out.lt).cell 3
 simp at g0 g1 g2 g3;have TY:=Hd (fun y:Wd I=>HT.out y.w (HB3.out.trans ((XI.out y).mono HB3.out.size)));have CO:=Hd (fun y:Wd I=>wd_call (I:=I) (v:=.int .i64 18) ((pOp_any 13 (TY.out y)).mono fun e w' hh=>⟨hh.1,hh.2▸y.ok⟩));have CR:=Hd (fun y:Wd I=>wd_call (I:=I) (v:=.int .i64 38) ((pRes_any ⟨#[105,110]⟩ (TY.out y)).mono fun e w' hh=>⟨by rw[←res_in];exact hh.1,hh.2▸y.ok⟩));have CS:=Hd (fun y:Wd I=>wd_call (I:=I) (v:=.string n3) ((pSpell_any 23 (by decide) (TY.out y)).mono fun e w' hh=>⟨by rw[HE3.out];exact hh.1,hh.2▸y.ok⟩));have CN:=Hd (fun y:Wd I=>wd_call (I:=I) (v:=.string n1) ((gname_any (HG3.out.later (XI.out y)) 18 (by decide)).mono fun e w' hh=>⟨by rw[←HE1.out];exact hh.1,XJ.out _ ((XI.out y).trans (hh.2.mono (XI.out y).size))⟩))
 have CM:=Hd (fun y:Wd I=>wd_call (I:=I) (v:=.string n2) ((gname_any (HG3.out.later (XI.out y)) S HS0.out).mono fun e w' hh=>⟨by rw[←HE2.out];exact hh.1,XJ.out _ ((XI.out y).trans (hh.2.mono (XI.out y).size))⟩));refine wp_region_wd I (by kernel_rfl) (by kernel_rfl) hI ?_;repeat (go_big_quiet_step (first|(go_at_call 32;exact CO.out _)|(go_at_call 33;exact CR.out _)|(go_at_call 34;exact CS.out _)|(go_at_call 31;first|(with_reducible exact CN.out _)|(with_reducible exact CM.out _))))
 refine wpQuiet_nil ?_;intro _ hw';obtain⟨x,rfl⟩:=hw';have HBE:=Hd (HB3.out.trans ((XI.out x).mono HB3.out.size));clear g0 g1 g2 g3;go_wp2;go_ret;exact⟨rfl,HBE.out⟩
end Go.Proofs.YthaacmablcpdfaaGreatDoor
