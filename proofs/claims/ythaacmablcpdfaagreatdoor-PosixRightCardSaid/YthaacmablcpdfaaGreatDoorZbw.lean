/- A table. A table that is being built. -/
import Derived.Test.YthaacmablcpdfaaGreatDoorZbu
import Derived.Test.YthaacmablcpdfaaGreatDoorZbe
import Derived.Test.YthaacmablcpdfaaGreatDoorNm
namespace Go.Proofs.YthaacmablcpdfaaGreatDoor
open Go.RowKit
set_option linter.unusedVariables false
set_option maxRecDepth 100000
def actH(g:Gz)(E:List (List It))(K:List (List (Nat×Nat)))(i t:Nat):It:=(g.actsK (E.getD i []) (K.getD i []) t).headD (0,0)
def actRow(g:Gz)(E:List (List It))(K:List (List (Nat×Nat)))(i:Nat):List It:=(List.range (g.nt+1)).map (actH g E K i)
def gotoRow(g:Gz)(E:List (List It))(i:Nat):List Int:=(List.range g.nn).map fun k=>gotoI (E.getD i []) (g.nt+1+k)
def IntsA(A:Nat→Prop)(w:World)(v:Value)(l:List Int):Prop:=RowA A w v l.length 1 (fun k _ x=>x=.int .i64 (l.getD k 0))
def RulesA(A:Nat→Prop)(w:World)(v:Value)(g:Gz):Prop:=RowA A w v (g.R.length+1) 2 (fun k j x=>if j=0 then x=.int .i64 ((g.rule k).1:Nat) else NumsA A w x (g.right k))
def TblA(A:Nat→Prop)(w:World)(v:Value)(g:Gz)(E:List (List It))(K:List (List (Nat×Nat))):Prop:=
 ∃rv av gv,v=.agg #[rv,.int .i64 g.nt,.int .i64 g.nn,av,gv]∧RulesA A w rv g∧RowA A w av E.length 1 (fun i _ x=>PrsA A w x (actRow g E K i))∧RowA A w gv E.length 1 (fun i _ x=>IntsA A w x (gotoRow g E i))
theorem PrsA.mono{A A':Nat→Prop}{w:World}{v:Value}{l:List It}(h:PrsA A w v l)(hA:∀b,A b→A' b):PrsA A' w v l:=RowA.mono h hA (fun _ _ _ _ _ h=>h)
theorem IntsA.mono{A A':Nat→Prop}{w:World}{v:Value}{l:List Int}(h:IntsA A w v l)(hA:∀b,A b→A' b):IntsA A' w v l:=RowA.mono h hA (fun _ _ _ _ _ h=>h)
theorem PrsA.chg{A X:Nat→Prop}{w w':World}{v:Value}{l:List It}(h:PrsA A w v l)(hc:Chg X w w')(hA:∀b,A b→¬X b):PrsA A w' v l:=RowA.chg h hc hA (fun _ _ _ _ _ h=>h)
theorem IntsA.chg{A X:Nat→Prop}{w w':World}{v:Value}{l:List Int}(h:IntsA A w v l)(hc:Chg X w w')(hA:∀b,A b→¬X b):IntsA A w' v l:=RowA.chg h hc hA (fun _ _ _ _ _ h=>h)
theorem RulesA.chg{A X:Nat→Prop}{w w':World}{v:Value}{g:Gz}(h:RulesA A w v g)(hc:Chg X w w')(hA:∀b,A b→¬X b):RulesA A w' v g:=RowA.chg h hc hA (fun k j x _ _ hx=>by
 split at hx
 ·rename_i hj;rw[if_pos hj];exact hx
 ·rename_i hj;rw[if_neg hj];exact hx.chg hc hA)
theorem RulesA.mono{A A':Nat→Prop}{w:World}{v:Value}{g:Gz}(h:RulesA A w v g)(hA:∀b,A b→A' b):RulesA A' w v g:=RowA.mono h hA (fun k j x _ _ hx=>by
 split at hx
 ·rename_i hj;rw[if_pos hj];exact hx
 ·rename_i hj;rw[if_neg hj];exact hx.mono hA)
theorem TblA.chg{A X:Nat→Prop}{w w':World}{v:Value}{g:Gz}{E:List (List It)}{K:List (List (Nat×Nat))}(h:TblA A w v g E K)(hc:Chg X w w')(hA:∀b,A b→¬X b):TblA A w' v g E K:=by obtain⟨rv,av,gv,h1,h2,h3,h4⟩:=h;exact⟨rv,av,gv,h1,h2.chg hc hA,RowA.chg h3 hc hA (fun _ _ _ _ _ h=>h.chg hc hA),RowA.chg h4 hc hA (fun _ _ _ _ _ h=>h.chg hc hA)⟩
theorem TblA.mono{A A':Nat→Prop}{w:World}{v:Value}{g:Gz}{E:List (List It)}{K:List (List (Nat×Nat))}(h:TblA A w v g E K)(hA:∀b,A b→A' b):TblA A' w v g E K:=by obtain⟨rv,av,gv,h1,h2,h3,h4⟩:=h;exact⟨rv,av,gv,h1,h2.mono hA,RowA.mono h3 hA (fun _ _ _ _ _ h=>h.mono hA),RowA.mono h4 hA (fun _ _ _ _ _ h=>h.mono hA)⟩
theorem RowA.ownM{A:Nat→Prop}{w:World}{B:Nat}{e:TypeId}{sz n:Nat}{v:Value}{XS:List Value}{f:Nat→Nat→Value→Prop}(h:w.ownsRow B e sz v n XS)(hn:n≤1000000)(hA:∀b cs,B≤b→Blk w b e cs→A b)(hf:∀i j x,i<n→j<sz→XS[i*sz+j]?=some x→f i j x):RowA A w v n sz f:=by
 rcases own_form h with⟨rfl,rfl⟩|⟨b,c,rfl,h1,h2,h3,_,cur,hb⟩
 ·exact⟨none,0,rfl,leR _,by omega,fun k hk=>by omega⟩
 ·refine⟨_,c,rfl,h3,hn,fun k hk=>⟨b,0,rfl,hA b cur h1 hb,h2,fun j hj=>?_⟩⟩
  have hl:=h.1;have hlt:k*sz+j<n*sz:=by have h5:(k+1)*sz≤n*sz:=Nat.mul_le_mul_right _ hk;rw[Nat.succ_mul]at h5;omega
  have hx:XS[k*sz+j]?=some (XS[k*sz+j]'(by omega)):=eG (by omega);exact⟨_,by rw[Nat.zero_add,own_cell h _ hlt,hx],hf k j _ hk hj hx⟩
def rowO(H:Nat→It)(n k:Nat):List It:=(List.range n).map fun t=>if t<k then H t else(0,0)
theorem rowO_len(H:Nat→It)(n k:Nat):(rowO H n k).length=n:=by simp[rowO]
theorem rowO_full(H:Nat→It)(n:Nat):rowO H n n=(List.range n).map H:=by
 unfold rowO;refine List.map_congr_left fun t ht=>?_
 rw[if_pos (List.mem_range.1 ht)]
theorem rowO_next(H:Nat→It){n k:Nat}(hk:k<n):rowO H n (k+1)=(rowO H n k).set k (H k):=by
 apply List.ext_getElem?;intro t;by_cases ht:t<n
 ·by_cases e:t=k
  ·subst e
   rw[tG (by rw[rowO_len];exact ht)];simp[rowO,ht]
  ·rw[uG (Ne.symm e)]
   simp only[rowO,pG,List.getElem?_range ht,Option.map_some];by_cases h:t<k
   ·rw[if_pos h,if_pos (by omega)]
   ·rw[if_neg h,if_neg (by omega)]
 ·rw[nG (by rw[rowO_len];omega),nG (by rw[List.length_set,rowO_len];omega)]
theorem rowO_same(H:Nat→It){n k:Nat}(hk:k<n)(h:H k=(0,0)):rowO H n (k+1)=rowO H n k:=by
 unfold rowO;refine List.map_congr_left fun t ht=>?_
 by_cases e:t=k
 ·rw[if_pos (by omega),if_neg (by omega),e,h]
 ·by_cases h2:t<k
  ·rw[if_pos h2,if_pos (by omega)]
  ·rw[if_neg h2,if_neg (by omega)]
theorem actC_set:∀(l:List It) (k:Nat) (x:It),k<l.length→((l.flatMap actC).set (k*2) (.int .i64 x.1)).set (k*2+1) (.int .i64 x.2)=(l.set k x).flatMap actC
 | [],k,x,h=>by simp at h
 | y::l,0,x,_=>by simp[actC]
 | y::l,k+1,x,h=>by have:=actC_set l k x (by simpa using h);rw[show (k+1)*2=k*2+2 by omega,List.flatMap_cons,List.set_cons_succ,List.flatMap_cons,←this];simp[actC]
theorem actC_zero(H:Nat→It)(n:Nat):((rowO H n 0).flatMap actC).toArray=Array.replicate (n*2) (.int .i64 0):=by
 have e:rowO H n 0=List.replicate n (0,0):=by
  unfold rowO;apply List.ext_getElem?;intro t;by_cases ht:t<n
  ·simp[ht]
  ·rw[nG (by simpa using ht),nG (by simpa using ht)]
 rw[e];induction n with
 | zero=>simp
 | succ n ih=>
  have e2:rowO H n 0=List.replicate n (0,0):=by
   unfold rowO;apply List.ext_getElem?;intro t;by_cases ht:t<n
   ·simp[ht]
   ·rw[nG (by simpa using ht),nG (by simpa using ht)]
  have h2:=congrArg Array.toList (ih e2);simp only[Array.toList_replicate]at h2;apply Array.toList_inj.1;rw[List.replicate_succ,List.flatMap_cons,Array.toList_replicate,show (n+1)*2=n*2+1+1 by omega,List.replicate_succ,List.replicate_succ];simpa [actC] using h2
theorem make_acts{n:Nat}(hn:n≤1000000)(y:World):(Instr.makeSlice 72 (.int .i64 (n:Nat)) (.int .i64 (n:Nat))).run Tryz.prog y=.ok (.slice (some ⟨y.heap.size,0,none⟩) n n) (y.alloc (.cells (Array.replicate (n*2) (.int .i64 0)) 78)):=by
 obtain⟨i,hi,hz0,hz1,hz2⟩:=info_parts (show (Tryz.prog.info? 78).map (fun i=>(i.zero,i.size,i.bytes))=some (some (.agg #[.int .i64 0,.int .i64 0]),2,16) by kernel_rfl);have h2:(i.bytes:Int)*(n:Int)≤281474976710656:=by rw[hz2];omega
 have hr:=run_make (P:=Tryz.prog) y 72 78 i (.agg #[.int .i64 0,.int .i64 0]) Tryz.underlying72 hi hz0 .i64 .i64 n n (by omega) (Int.le_refl _) h2 (by omega);rw[hr,hz1,Int.toNat_natCast];congr 4;unfold madeCells;apply Array.ext
 ·simp
 ·intro j h1 h3
  simp[Value.cells];have:j%2=0∨j%2=1:=by omega
  rcases this with h|h<;>simp[h]
theorem own_blk{w:World}{B b:Nat}{e:TypeId}{sz n:Nat}{XS:List Value}(h:Blk w b e XS.toArray)(hB:B≤b)(hl:XS.length=n*sz)(hn:n≤1000000):w.ownsRow B e sz (.slice (some ⟨b,0,none⟩) n n) n XS:=
 ⟨hl,.inr ⟨b,n,XS.toArray,rfl,hB,h,leR _,by unfold maxLen;omega,by simp[hl],by simp[←hl]⟩⟩
def Rt(w wr:World)(b:Nat):Prop:=b<w.heap.size∨(w.heap.size≤b∧∃cs,Blk wr b 3 cs)
theorem NumsA.rt{w wr w2:World}{v:Value}{l:List Nat}(h:NumsA (Rt w wr) wr v l)(hw:w.heap.size≤wr.heap.size)(hs:wr.heap.size≤w2.heap.size)(hk:∀b,b<wr.heap.size→Rt w wr b→w2.heap[b]?=wr.heap[b]?):NumsA (Rt w w2) w2 v l:=by
 have hlt:∀b,Rt w wr b→b<wr.heap.size:=fun b hb=>by
  rcases hb with h1|⟨h1,cs,h2⟩
  ·omega
  ·exact h2.lt
 have hsm:Same (Rt w wr) wr w2:=fun b hb=>hk b (hlt b hb) hb
 refine h.keep (fun b hb=>?_) hs hsm;rcases id hb with h1|⟨h1,cs,h2⟩
 ·exact .inl h1
 ·exact .inr ⟨h1,cs,(hsm b hb).trans h2⟩
def ruZ(z:Nat×Value):List Value:=[.int .i64 z.1,z.2]
structure RuB(w wr:World)(B:Nat)(g:Gz)(k:Nat)(rv:Value)(Z:List (Nat×Value)):Prop where
 size:w.heap.size≤B∧B≤wr.heap.size
 len:Z.length=k
 row:wr.ownsRow B 65 2 rv Z.length (Z.flatMap ruZ)
 is:∀(j:Nat) (x:Nat×Value),Z[j]?=some x→x.1=(g.rule j).1∧NumsA (Rt w wr) wr x.2 (g.right j)
theorem RuB.later{w wr w2:World}{B:Nat}{g:Gz}{k:Nat}{rv:Value}{Z:List (Nat×Value)}(h:RuB w wr B g k rv Z)(hb:Below wr.heap.size wr w2):RuB w w2 B g k rv Z:=
 ⟨⟨h.size.1,leT h.size.2 hb.size⟩,h.len,own_below h.row hb,fun j x hx=>⟨(h.is j x hx).1,(h.is j x hx).2.rt (leT h.size.1 h.size.2) hb.size (fun b hb2 _=>hb.block b hb2)⟩⟩
theorem RuB.more{w wb wc:World}{B:Nat}{g:Gz}{k:Nat}{rv:Value}{Z:List (Nat×Value)}(h:RuB w wb B g k rv Z){x:Value}(hx:NumsA (Rt w wb) wb x (g.right k)){A:Option Addr}{c:Nat}(r1:wc.ownsRow B 65 2 (.slice A (Z.length+1) c) (Z.length+1) (Z.flatMap ruZ++[.int .i64 ((g.rule k).1:Nat),x]))(r2:Keeps B [65] wb wc)
  {tb:Nat} {cs:Array Value} (ht:Blk wc tb 26 cs) (hB:w.heap.size≤tb) (u:Value):RuB w (wc.setCell ⟨tb,0,none⟩ u) B g (k+1) (.slice A (Z.length+1) c) (Z++[((g.rule k).1,x)]):=by
 have hk:∀b,b<wb.heap.size→Rt w wb b→(wc.setCell ⟨tb,0,none⟩ u).heap[b]?=wb.heap[b]?:=fun b hb hr=>by
  have h1:wc.heap[b]?=wb.heap[b]?:=r2.block b hb (by
   rcases hr with h1|⟨_,cs2,h1⟩
   ·exact .inl (ltL h1 h.size.1)
   ·refine .inr fun cs' t m hh=>?_
    unfold Blk at h1;rw[h1]at hh;cases hh
    decide)
  have hne:b≠tb:=by
   rcases hr with h2|⟨_,cs2,h2⟩
   ·omega
   ·have h3:Blk wc b 3 cs2:=h1.trans h2
    exact Blk.ne_ h3 ht (by decide)
  exact(Below.heap_setCell _ _ _ _ hne).trans h1
 have hs:wb.heap.size≤(wc.setCell ⟨tb,0,none⟩ u).heap.size:=by simpa [World.setCell] using r2.size
 have hw:=leT h.size.1 h.size.2;refine⟨⟨h.size.1,leT h.size.2 hs⟩,by simp[h.len],?_,fun j y hy=>?_⟩
 ·rw[lnA,List.flatMap_append]
  exact own_far r1 (p:=⟨tb,0,none⟩) (own_blk_ne r1 ht (by decide)) u
 ·by_cases hj:j<Z.length
  ·rw[gL hj]at hy
   exact⟨(h.is j y hy).1,(h.is j y hy).2.rt hw hs hk⟩
  ·rw[List.getElem?_append_right (by omega)]at hy
   have hj0:j-Z.length=0:=by have:=(sG.1 hy).1;simpa using this
   rw[hj0]at hy;cases hy
   have:j=k:=by have:=h.len;omega
   subst this;exact⟨rfl,hx.rt hw hs hk⟩
theorem RuB.done{w wr:World}{B:Nat}{g:Gz}{rv:Value}{Z:List (Nat×Value)}(h:RuB w wr B g (g.R.length+1) rv Z)(hn:g.R.length≤300){tb rb:Nat}{cs cs2:Array Value}(ht:Blk wr tb 26 cs)(hr:Blk wr rb 26 cs2)(hB:w.heap.size≤tb)(hB2:w.heap.size≤rb):RulesA (fun b=>b<wr.heap.size∧b≠tb∧b≠rb) wr rv g:=by
 unfold RulesA;have hl:=h.len;rw[←hl];refine RowA.ownM h.row (by omega) (fun b cs3 hb1 hb2=>⟨hb2.lt,Blk.ne_ hb2 ht (by decide),Blk.ne_ hb2 hr (by decide)⟩) (fun i j x hi hj hx=>?_);obtain⟨z,hz⟩:∃z,Z[i]?=some z:=⟨_,eG hi⟩
 obtain⟨_,hz2⟩:=sG.1 hz;have hg:=fm_get ruZ 2 (fun _=>rfl) Z i j hi hj;rw[hx,hz2]at hg;obtain⟨h1,h2⟩:=h.is i z hz
 match j,hj with
 | 0,_=>rw[if_pos rfl];cases hg;rw[h1]
 | 1,_=>
  rw[if_neg (by omega)];cases hg
  refine h2.mono (fun b hb=>?_);rcases hb with h3|⟨h3,cs3,h4⟩
  ·exact⟨ltL h3 (leT h.size.1 h.size.2),by omega,by omega⟩
  ·exact⟨h4.lt,Blk.ne_ h4 ht (by decide),Blk.ne_ h4 hr (by decide)⟩
structure OfSt(w1 wr:World)(tb:Nat)(g:Gz)(E:List (List It))(K:List (List (Nat×Nat)))(i:Nat)(rv av gv:Value)(ZA:List (Value×List It))(ZG:List (Value×List Int))(ds:List Deferred):Prop where
 chg:Chg (·=tb) w1 wr
 lt:tb<w1.heap.size
 tbl:Blk wr tb 26 #[rv,.int .i64 g.nt,.int .i64 g.nn,av,gv]
 za:ZA.map (·.2)=(List.range i).map (actRow g E K)
 zg:ZG.map (·.2)=(List.range i).map (gotoRow g E)
 acts:wr.ownsRow w1.heap.size 72 1 av ZA.length (ZA.map (·.1))
 aown:∀z∈ZA,wr.ownsRow w1.heap.size 78 2 z.1 z.2.length (z.2.flatMap actC)
 goto:wr.ownsRow w1.heap.size 44 1 gv ZG.length (ZG.map (·.1))
 gown:∀z∈ZG,wr.ownsRow w1.heap.size 3 1 z.1 z.2.length (z.2.map IntV)
 marks:MarksAt w1.heap.size wr ds
section
variable {w1 wr w':World} {tb rb:Nat} {g:Gz} {E:List (List It)} {K:List (List (Nat×Nat))} {i:Nat} {rv av gv:Value} {ZA:List (Value×List It)} {ZG:List (Value×List Int)} {ds:List Deferred}
theorem MarksAt.later{B:Nat}(h:MarksAt B wr ds)(hb:Below wr.heap.size wr w'):MarksAt B w' ds:=h.keep fun D _ hx _=>(hb.block D (aG.1 hx).1).trans hx
theorem MarksAt.keeps{B B':Nat}{T:List TypeId}(h:MarksAt B wr ds)(hb:Keeps B' T wr w'):MarksAt B w' ds:=h.keep fun D _ hx _=>(hb.block D (aG.1 hx).1 (.inr fun cs t m hh=>by rw[hx]at hh;cases hh)).trans hx
theorem MarksAt.stored{B b:Nat}{t:TypeId}{cs:Array Value}(h:MarksAt B wr ds)(hb:Blk wr b t cs)(j:Nat)(u:Value):MarksAt B (wr.setCell ⟨b,j,none⟩ u) ds:=h.keep fun D _ hx _=>(Below.heap_setCell _ _ _ _ (fun e=>by have e:D=b:=e;subst e;unfold Blk at hb;rw[hx]at hb;cases hb)).trans hx
theorem OfSt.later(h:OfSt w1 wr tb g E K i rv av gv ZA ZG ds)(hb:Below wr.heap.size wr w'):OfSt w1 w' tb g E K i rv av gv ZA ZG ds:=
 ⟨h.chg.next (Chg.of_below hb),h.lt,h.tbl.below hb h.tbl.lt,h.za,h.zg,own_below h.acts hb,fun z hz=>own_below (h.aown z hz) hb,own_below h.goto hb,fun z hz=>own_below (h.gown z hz) hb,h.marks.later hb⟩
theorem OfSt.marked(h:OfSt w1 wr tb g E K i rv av gv ZA ZG ds){ds':List Deferred}(hm:MarksAt w1.heap.size wr ds'):OfSt w1 wr tb g E K i rv av gv ZA ZG ds':=
 ⟨h.chg,h.lt,h.tbl,h.za,h.zg,h.acts,h.aown,h.goto,h.gown,hm⟩
theorem OfSt.more(h:OfSt w1 wr tb g E K i rv av gv ZA ZG ds){ra rg:Value}(ha:wr.ownsRow w1.heap.size 78 2 ra (actRow g E K i).length ((actRow g E K i).flatMap actC))(hg:wr.ownsRow w1.heap.size 3 1 rg (gotoRow g E i).length ((gotoRow g E i).map IntV))
  (hk:Keeps w1.heap.size [72,44] wr w') {av' gv':Value} (ka:w'.ownsRow w1.heap.size 72 1 av' (ZA.length+1) (ZA.map (·.1)++[ra])) (kg:w'.ownsRow w1.heap.size 44 1 gv' (ZG.length+1) (ZG.map (·.1)++[rg])) :
  OfSt w1 ((w'.setCell ⟨tb,3,none⟩ av').setCell ⟨tb,4,none⟩ gv') tb g E K (i+1) rv av' gv' (ZA++[(ra,actRow g E K i)]) (ZG++[(rg,gotoRow g E i)]) ds:=by
 have hs:=h.chg.size;have ht:Blk w' tb 26 #[rv,.int .i64 g.nt,.int .i64 g.nn,av,gv]:=hk.blk h.tbl (.inr (by decide));have ht2:Blk (w'.setCell ⟨tb,3,none⟩ av') tb 26 #[rv,.int .i64 g.nt,.int .i64 g.nn,av',gv]:=by simpa using ht.set_ 3 av'
 have ht3:Blk ((w'.setCell ⟨tb,3,none⟩ av').setCell ⟨tb,4,none⟩ gv') tb 26 #[rv,.int .i64 g.nt,.int .i64 g.nn,av',gv']:=by simpa using ht2.set_ 4 gv'
 have hc0:Chg (·=tb) w1 w':=h.chg.trans (Y:=fun b=>w1.heap.size≤b) ⟨hk.os,hk.tape,hk.output,hk.size,fun k hk2 hx=>hk.block k hk2 (.inl (by omega))⟩ (fun b hb hx=>by omega);have hc:Chg (·=tb) w1 ((w'.setCell ⟨tb,3,none⟩ av').setCell ⟨tb,4,none⟩ gv'):=(hc0.set (p:=⟨tb,3,none⟩) (.inr rfl) _).set (p:=⟨tb,4,none⟩) (.inr rfl) _;have far:∀{e:TypeId} {sz n:Nat} {v:Value} {xs:List Value},w'.ownsRow w1.heap.size e sz v n xs→e≠26→((w'.setCell ⟨tb,3,none⟩ av').setCell ⟨tb,4,none⟩ gv').ownsRow w1.heap.size e sz v n xs:=fun ho hne=>own_far (own_far ho (p:=⟨tb,3,none⟩) (own_blk_ne ho ht hne) _) (p:=⟨tb,4,none⟩) (own_blk_ne ho ht hne) _
 have keep:∀{e:TypeId} {sz n:Nat} {v:Value} {xs:List Value},wr.ownsRow w1.heap.size e sz v n xs→e ∉ [72,44]→w'.ownsRow w1.heap.size e sz v n xs:=fun ho hne=>hk.own ho (.inr hne)
 refine⟨hc,h.lt,ht3,?_,?_,?_,fun z hz=>?_,?_,fun z hz=>?_,((h.marks.keeps hk).stored ht 3 _).stored ht2 4 _⟩
 ·rw[mpA,h.za,List.range_succ,mpA];rfl
 ·rw[mpA,h.zg,List.range_succ,mpA];rfl
 ·rw[mpA,lnA]
  exact far ka (by decide)
 ·rcases mA.1 hz with h1|h1
  ·exact far (keep (h.aown z h1) (by decide)) (by decide)
  ·rw[mS.1 h1]
   exact far (keep ha (by decide)) (by decide)
 ·rw[mpA,lnA]
  exact far kg (by decide)
 ·rcases mA.1 hz with h1|h1
  ·exact far (keep (h.gown z h1) (by decide)) (by decide)
  ·rw[mS.1 h1]
   exact far (keep hg (by decide)) (by decide)
theorem prs_get(l:List It)(k:Nat):(l.flatMap actC)[k*2]?=l[k]?.map (fun x=>Value.int .i64 x.1)∧(l.flatMap actC)[k*2+1]?=l[k]?.map (fun x=>Value.int .i64 x.2):=by
 by_cases hk:k<l.length
 ·have h0:=fm_get actC 2 (fun _=>rfl) l k 0 hk (by omega)
  have h1:=fm_get actC 2 (fun _=>rfl) l k 1 hk (by omega);rw[Nat.add_zero]at h0;rw[h0,h1,eG hk];exact⟨rfl,rfl⟩
 ·have hl:=fm_len actC 2 (fun _=>rfl) l
  rw[nG (by omega),nG (by omega),nG (by omega)];exact⟨rfl,rfl⟩
theorem prsA_own{A:Nat→Prop}{w:World}{B:Nat}{v:Value}{l:List It}(h:w.ownsRow B 78 2 v l.length (l.flatMap actC))(hl:l.length≤1000000)(hA:∀b cs,B≤b→Blk w b 78 cs→A b):PrsA A w v l:=by
 refine RowA.ownM h hl hA (fun i j x hi hj hx=>?_);obtain⟨h0,h1⟩:=prs_get l i;have hg:l[i]?=some (l.getD i (0,0)):=by rw[dG,eG hi];rfl
 match j,hj with
 | 0,_=>
  rw[Nat.add_zero,h0,hg]at hx;cases hx
  rfl
 | 1,_=>
  rw[h1,hg]at hx;cases hx
  rfl
theorem intsA_own{A:Nat→Prop}{w:World}{B:Nat}{v:Value}{l:List Int}(h:w.ownsRow B 3 1 v l.length (l.map IntV))(hl:l.length≤1000000)(hA:∀b cs,B≤b→Blk w b 3 cs→A b):IntsA A w v l:=by
 refine RowA.ownM h hl hA (fun i j x hi hj hx=>?_);obtain rfl:j=0:=by omega
 rw[Nat.mul_one,Nat.add_zero,pG,eG hi]at hx;cases hx
 rw[dG,eG hi];rfl
theorem OfSt.done(h:OfSt w1 wr tb g E K E.length rv av gv ZA ZG ds)(hr:RulesA (fun b=>b<w1.heap.size∧b≠tb∧b≠rb) w1 rv g)(hn:E.length≤1000000)(hnt:g.nt≤120)(hnn:g.nn≤120)(hrb:rb<w1.heap.size)(htb:tb<w1.heap.size) :
  TblA (fun b=>(b<wr.heap.size∧b≠tb∧b≠rb)∧¬(w1.heap.size≤b∧wr.heap[b]?=some (.deferred (some [])))) wr (.agg #[rv,.int .i64 g.nt,.int .i64 g.nn,av,gv]) g E K:=by
 have hs:=h.chg.size;have lA:ZA.length=E.length:=by simpa using congrArg List.length h.za
 have lG:ZG.length=E.length:=by simpa using congrArg List.length h.zg
 have hAB:∀{t:TypeId} (b:Nat) (cs:Array Value),w1.heap.size≤b→Blk wr b t cs→(b<wr.heap.size∧b≠tb∧b≠rb)∧¬(w1.heap.size≤b∧wr.heap[b]?=some (.deferred (some []))):=fun b cs h1 h2=>⟨⟨h2.lt,by omega,by omega⟩,fun h3=>by unfold Blk at h2;rw[h3.2]at h2;cases h2⟩
 refine⟨rv,av,gv,rfl,(hr.chg h.chg (fun b hb=>hb.2.1)).mono (fun b hb=>⟨⟨ltL hb.1 hs,hb.2⟩,fun h3=>by omega⟩),?_,?_⟩
 ·rw[←lA]
  refine RowA.ownM h.acts (by omega) hAB (fun i j x hi hj hx=>?_);obtain rfl:j=0:=by omega
  rw[Nat.mul_one,Nat.add_zero,pG,eG hi]at hx;cases hx
  have h1:=h.aown _ (List.getElem_mem hi);have h2:ZA[i].2=actRow g E K i:=by have h3:=congrArg (·[i]?) h.za;simp only[pG,eG hi,List.getElem?_range (lA▸hi),Option.map_some]at h3;exact Option.some.inj h3
  rw[h2]at h1;exact prsA_own h1 (by simp[actRow];omega) hAB
 ·rw[←lG]
  refine RowA.ownM h.goto (by omega) hAB (fun i j x hi hj hx=>?_);obtain rfl:j=0:=by omega
  rw[Nat.mul_one,Nat.add_zero,pG,eG hi]at hx;cases hx
  have h1:=h.gown _ (List.getElem_mem hi);have h2:ZG[i].2=gotoRow g E i:=by have h3:=congrArg (·[i]?) h.zg;simp only[pG,eG hi,List.getElem?_range (lG▸hi),Option.map_some]at h3;exact Option.some.inj h3
  rw[h2]at h1;exact intsA_own h1 (by simp[gotoRow];omega) hAB
end
def rowG(G:Nat→Int)(n k:Nat):List Int:=(List.range n).map fun t=>if t<k then G t else 0
theorem rowG_next(G:Nat→Int){n k:Nat}(hk:k<n):rowG G n (k+1)=(rowG G n k).set k (G k):=by
 apply List.ext_getElem?;intro t;by_cases ht:t<n
 ·by_cases e:t=k
  ·subst e
   rw[tG (by simp[rowG];exact ht)];simp[rowG,ht]
  ·rw[uG (Ne.symm e)]
   simp only[rowG,pG,List.getElem?_range ht,Option.map_some];by_cases h:t<k
   ·rw[if_pos h,if_pos (by omega)]
   ·rw[if_neg h,if_neg (by omega)]
 ·rw[nG (by simp[rowG];omega),nG (by simp[rowG];omega)]
theorem rowG_full(G:Nat→Int)(n:Nat):rowG G n n=(List.range n).map G:=by
 unfold rowG;refine List.map_congr_left fun t ht=>?_
 rw[if_pos (List.mem_range.1 ht)]
theorem rowG_zero(G:Nat→Int)(n:Nat):((rowG G n 0).map IntV).toArray=Array.replicate n (.int .i64 0):=by apply Array.toList_inj.1;rw[Array.toList_replicate];simp[rowG,IntV,List.map_const']
end Go.Proofs.YthaacmablcpdfaaGreatDoor
