/- Where the making of what begins stands. What comes with each nonterminal. Where symbols lead. Where the making of an automaton stands. -/
import Derived.Test.YthaacmablcpdfaaGreatDoorZay
import Derived.Test.YthaacmablcpdfaaGreatDoorZaw
import Derived.WideKeyPair
import Derived.Test.YthaacmablcpdfaaGreatDoorNm
namespace Go.Proofs.YthaacmablcpdfaaGreatDoor
open Go.RowKit
open Go.Maps (IsMap)
set_option linter.unusedVariables false
set_option maxRecDepth 100000
theorem IFam.lay{w:World}{B C g n c:Nat}{R:List (Value×List It)}(h:IFam w B g n c R)(hC:∀(k:Nat) (x:Value×List It),R[k]?=some x→∀b,x.1.ownBlock=some b→b<C){s:Nat}(hs:s<n){nv:Value}{l:List It}
  (r1:w.ownsRow C 194 2 nv l.length (l.flatMap itC)) (hBC:B≤C):IFam (w.setCell ⟨g,s,none⟩ nv) B g n c (R.set s (nv,l)):=by
 have hlen:=h.len;obtain⟨cur,hcur⟩:=h.blk;have hcs:Chg (·=g) w (w.setCell ⟨g,s,none⟩ nv):=Chg.set (X:=(·=g)) (Chg.refl _ w) (p:=⟨g,s,none⟩) (.inr rfl) _;refine⟨?_,?_,?_⟩
 ·have:=own_set h.row s (by omega) nv
  rw[List.map_set];exact this
 ·intro k y hy
  by_cases hk:k=s
  ·subst hk
   rw[tG (by omega)]at hy;cases hy
   exact hcs.own (own_base r1 hBC) (own_neb r1 hcur (by decide))
  ·rw[uG (fun e=>hk e.symm)]at hy
   have hy0:=h.own k y hy;exact hcs.own hy0 (own_neb hy0 hcur (by decide))
 ·intro i j a b ha hb hij k hak hbk
  have hn:∀k,nv.ownBlock=some k→C≤k:=fun k hk=>(own_lt r1 k hk).2
  by_cases hi:i=s
  ·subst hi
   rw[tG (by omega)]at ha;cases ha
   rw[uG hij]at hb;have h1:=hn k hak;have h2:=hC j b hb k hbk;omega
  ·rw[uG (fun e=>hi e.symm)]at ha
   by_cases hj:j=s
   ·subst hj
    rw[tG (by omega)]at hb;cases hb
    have h1:=hn k hbk;have h2:=hC i a ha k hak;omega
   ·rw[uG (fun e=>hj e.symm)]at hb
    exact h.apart i j a b ha hb hij k hak hbk
structure Prp(w0 w wr:World)(bb gr N:Nat)(v sv:Value)(mb tb:Nat)(R:List (Value×List It)):Prop where
 chg:Chg (·=bb) w wr
 blk:Blk wr bb 179 (v.cells++#[.slice (some ⟨gr,0,none⟩) N N,sv,.map (some mb),.map (some tb)])
 fam:IFam wr w.heap.size gr N N R
theorem Prp.later{w0 w wr w2:World}{bb gr N:Nat}{v sv:Value}{mb tb:Nat}{R:List (Value×List It)}(h:Prp w0 w wr bb gr N v sv mb tb R)(hb:Below wr.heap.size wr w2):Prp w0 w w2 bb gr N v sv mb tb R:=
 ⟨h.chg.next (Chg.of_below hb),h.blk.below hb h.blk.lt,h.fam.later hb⟩
theorem Prp.below{w0 w wr:World}{bb gr N:Nat}{v sv:Value}{mb tb:Nat}{R:List (Value×List It)}(h:Prp w0 w wr bb gr N v sv mb tb R)(hb:Below w0.heap.size w0 w)(h0:w0.heap.size≤bb):Below w0.heap.size w0 wr:=
 hb.trans (h.chg.below hb.size (fun k hk e=>by omega))
theorem Prp.bg{w0 w wr:World}{bb gr N:Nat}{v sv:Value}{mb tb:Nat}{R:List (Value×List It)}{g:Gz}(h:Prp w0 w wr bb gr N v sv mb tb R)(hb:Below w0.heap.size w0 w)(h0:w0.heap.size≤bb)(hg:GN w0 v g):BG wr bb v g:=by
 refine⟨hg.later (h.below hb h0),fun j hj=>?_⟩;obtain⟨AT,cT,AN,cN,AR,cR,rfl,-,-⟩:=hg.open_;rw[h.blk.cell]
 match j,hj with
 | 0,_=>rfl
 | 1,_=>rfl
 | 2,_=>rfl
 | 3,_=>rfl
theorem Prp.cells{w0 w wr:World}{bb gr N:Nat}{v sv:Value}{mb tb:Nat}{R:List (Value×List It)}{AT AN AR:Option Addr}{nt nn nR cT cN cR:Nat}{gs:Value}(hv:v=.agg #[.slice AT nt cT,.slice AN nn cN,.slice AR nR cR,gs])(h:Prp w0 w wr bb gr N v sv mb tb R) :
  wr.cell? ⟨bb,0,none⟩=some (.slice AT nt cT)∧wr.cell? ⟨bb,1,none⟩=some (.slice AN nn cN)∧wr.cell? ⟨bb,2,none⟩=some (.slice AR nR cR)∧wr.cell? ⟨bb,3,none⟩=some gs∧wr.cell? ⟨bb,4,none⟩=some (.slice (some ⟨gr,0,none⟩) N N):=by
 subst hv;have h:=h.blk.cell;exact⟨h 0,h 1,h 2,h 3,h 4⟩
structure Prq(w2 wr:World)(mm n:Nat)(tv av:Value)(todo M:List Nat)(all:List It)(D:DataW Unit):Prop where
 below:Below w2.heap.size w2 wr
 todo:OwnQ wr w2.heap.size 3 1 tv todo.length (todo.map NatV)
 all:wr.ownsRow w2.heap.size 194 2 av all.length (all.flatMap itC)
 map:BMap wr mm n D
 met:MetD D M
 lo:w2.heap.size≤mm
 cnt:n≤M.length
theorem Prq.later{w2 wr w3:World}{mm n:Nat}{tv av:Value}{todo M:List Nat}{all:List It}{D:DataW Unit}(h:Prq w2 wr mm n tv av todo M all D)(hb:Below wr.heap.size wr w3):Prq w2 w3 mm n tv av todo M all D:=
 ⟨h.below.trans (hb.mono h.below.size),h.todo.below hb,own_below h.all hb,(Chg.of_below (X:=fun _=>False) hb).map h.map id,h.met,h.lo,h.cnt⟩
theorem Prq.mapped{w2 wr w3:World}{mm n s:Nat}{tv av:Value}{todo M:List Nat}{all:List It}{D:DataW Unit}(h:Prq w2 wr mm n tv av todo M all D)(hm:BMap w3 mm (n+1) (D.put (klN s) (.lit (.bool true))))(hg:wr.grownBy w3 (some mm)):Prq w2 w3 mm (n+1) tv av todo (s::M) all (D.put (klN s) (.lit (.bool true))):=by have hc:Chg (·=mm) wr w3:=Chg.of_map hg;exact⟨h.below.trans (hc.below h.below.size (fun k hk e=>by have:=h.lo;omega)),h.todo.chg (X:=fun _=>True) (fun g cur hb _=>hc.blk hb (map_ne h.map hb)),hc.own h.all (fun b hb=>map_neo h.map h.all b hb),hm,h.met.next h.map.isMap s,h.lo,by have:=h.cnt;simp;omega⟩
theorem Prq.added{w2 wr w3:World}{mm n s:Nat}{tv tv2 av:Value}{todo M:List Nat}{all:List It}{D:DataW Unit}(h:Prq w2 wr mm n tv av todo M all D)(hq:OwnQ w3 w2.heap.size 3 1 tv2 (todo.length+1) (todo.map NatV++[.int .i64 s]))(hk:Keeps w2.heap.size [3] wr w3):Prq w2 w3 mm n tv2 av (todo++[s]) M all D:=
 ⟨h.below.trans (hk.below h.below.size),by rw[mpA,lnA];exact hq,hk.own h.all (.inr (by decide)),hk.map h.map,h.met,h.lo,h.cnt⟩
theorem Prq.grown{w2 wr w3:World}{mm n:Nat}{tv av av2:Value}{todo M:List Nat}{all l:List It}{D:DataW Unit}(h:Prq w2 wr mm n tv av todo M all D)(hq:w3.ownsRow w2.heap.size 194 2 av2 (all.length+l.length) (all.flatMap itC++l.flatMap itC))(hk:Keeps w2.heap.size [194] wr w3):Prq w2 w3 mm n tv av2 todo M (all++l) D:=
 ⟨h.below.trans (hk.below h.below.size),h.todo.keeps hk (by decide),by rw[List.flatMap_append,lnA];exact hq,hk.map h.map,h.met,h.lo,h.cnt⟩
theorem Prq.tailed{w2 wr:World}{mm n s:Nat}{tv2 av:Value}{A:Option Addr}{c:Nat}{todo M:List Nat}{all:List It}{D:DataW Unit}(h:Prq w2 wr mm n (.slice A (todo.length+1) c) av (s::todo) M all D)(hq:OwnQ wr w2.heap.size 3 1 tv2 todo.length (todo.map NatV)):Prq w2 wr mm n tv2 av todo M all D:=
 ⟨h.below,hq,h.all,h.map,h.met,h.lo,h.cnt⟩
end Go.Proofs.YthaacmablcpdfaaGreatDoor
namespace Go.Proofs.YthaacmablcpdfaaGreatDoor
open Go.RowKit
set_option linter.unusedVariables false
set_option maxRecDepth 100000
theorem ElIntQ:El Tryz.prog 44 3 1 8:=El.of (z:=.int .i64 0) Tryz.underlying44 (by kernel_rfl) rfl (by decide)
theorem begStep_yes(g:Gz)(T M:List Nat)(x:It)(s:Nat)(hs:g.next x=s)(h1:g.non s=true)(h2:s ∉ M):g.begStep (T,M) x=(T++[s],s::M):=by unfold Gz.begStep;rw[hs,if_pos ⟨h1,h2⟩]
theorem begStep_no(g:Gz)(T M:List Nat)(x:It)(s:Nat)(hs:g.next x=s)(h:g.non s=false∨s∈M):g.begStep (T,M) x=(T,M):=by
 unfold Gz.begStep;rw[hs,if_neg];rintro⟨h1,h2⟩;rcases h with h|h
 ·rw[h1]at h;cases h
 ·exact h2 h
theorem itc_one(l:List It):∀u∈l.flatMap itC,u.oneCell'=true:=fun u hu=>by obtain⟨x,_,hx⟩:=List.mem_flatMap.1 hu;unfold itC at hx;simp at hx;rcases hx with rfl|rfl<;>rfl
set_option maxHeartbeats 2000000 in
theorem prepare_any{w0 w:World}{bb mb tb:Nat}{v bv sv:Value}{g:Gz}{bg:List (List It)}(hgn:GN w0 v g)(hb0:Below w0.heap.size w0 w)(hbb0:w0.heap.size≤bb)(hblk:Blk w bb 179 (v.cells++#[bv,sv,.map (some mb),.map (some tb)]))(hbg:g.begsI=some bg) :
  Calls Tryz.prog 107 #[.pointer (some ⟨bb,0,none⟩)] w fun e w'=>e=.returned (.tuple #[])∧∃gr R,Prp w0 w w' bb gr (g.top+1) v sv mb tb R∧R.map (·.2)=bg:=by
 have hfit:=hgn.fit;have hnn:=hfit.nn;have hnt:=hfit.nt;have hnr:=hfit.nr;have hst:=hfit.start;obtain⟨N,hN⟩:∃N,N=g.top+1:=⟨_,rfl⟩
 have hN1:N≤1000:=by unfold Gz.top at hN;omega
 have htop:g.top≤1000:=by omega
 have hntt:g.nt<g.top:=by omega
 have hi1:IntKind.i64.wrap ((g.top:Int)+1)=(g.top:Int)+1:=by rw[IntKind.wrap_i64];omega
 have hmk:=fun y=>make_of (P:=Tryz.prog) (t:=177) (e:=68) (z:=.slice none 0 0) (bytes:=24) Tryz.underlying177 (by kernel_rfl) rfl (l:=((g.top:Nat):Int)+1) (n:=N) (by omega) (by omega) (by omega) y
 have hmp:∀y:World,(Instr.makeMap 222 none).run Tryz.prog y=.ok (.map (some y.heap.size)) (y.alloc (.map #[] 0)):=fun y=>by kernel_rfl
 have HT:=Hd (fun y (hy:Below w0.heap.size w0 y)=>topN_any (hgn.later hy));have HNO:=Hd (fun y (hy:Below w0.heap.size w0 y) (s:Nat)=>nonN_any (hgn.later hy) s);have HFIT:=Hd hfit;have HBG:Hid (∀k,k≤N→g.begAll k=some (bg.take k)):=Hd (fun k hk=>by unfold Gz.begsI at hbg;rw[←hN]at hbg;exact begAll_some N k bg hk hbg)
 have HBL:Hid (bg.length=N):=Hd (by unfold Gz.begsI at hbg;rw[←hN]at hbg;exact(begAll_mem _ _ hbg).1)
 obtain⟨AT,cT,AN,cN,AR,cR,rfl,hc,hcR⟩:=hgn.open_;have HGN:=Hd hgn;have HB0:=Hd hb0;have HBLK:=Hd hblk;obtain⟨y0,y1,y2,y3⟩:w.cell? ⟨bb,0,none⟩=some (.slice AT g.nt cT)∧w.cell? ⟨bb,1,none⟩=some (.slice AN g.nn cN)∧w.cell? ⟨bb,2,none⟩=some (.slice AR g.R.length cR)∧w.cell? ⟨bb,3,none⟩=some (.int .i64 g.s):=by have h:=hblk.cell;exact⟨h 0,h 1,h 2,h 3⟩
 have hbbw:=hblk.lt;have HN:=Hd hN;have HBX:Hid (∀(gr:Nat) (wr:World) (R:List (Value×List It)),Prp w0 w wr bb gr N (.agg #[.slice AT g.nt cT,.slice AN g.nn cN,.slice AR g.R.length cR,.int .i64 g.s]) sv mb tb R→Below w0.heap.size w0 wr∧BG wr bb (.agg #[.slice AT g.nt cT,.slice AN g.nn cN,.slice AR g.R.length cR,.int .i64 g.s]) g):=Hd (fun gr wr R h=>⟨h.below hb0 hbb0,h.bg hb0 hbb0 hgn⟩);clear hgn hb0 hblk hbg hc hfit hnn hnt;rw[←hN];clear hN;go_enter Tryz.func107,Tryz.ntmps107
 go_wp2_with (
        go_at_call 38;refine(HT.out _ HB0.out).mono ?_;rintro e w1 ⟨rfl,hb1⟩
        have HB1:=Hd hb1;have b1:=HBLK.out.below hb1 HBLK.out.lt;have f4:=Blk.frozen b1 4;have x4:w1.cell? ⟨bb,4,none⟩=some bv:=Blk.cell b1 4;have y0:w1.cell? ⟨bb,0,none⟩=some (.slice AT g.nt cT):=Blk.cell b1 0;have l1:=Blk.lt b1;have HBLK1:=Hd b1;clear b1 hb1)
 have HP0:Hid (Prp w0 w ((w1.setCell ⟨bb,4,none⟩ (.slice (some ⟨w1.heap.size,0,none⟩) N N)).alloc (.cells (Array.replicate N (.slice none 0 0)) 68)) bb w1.heap.size N (.agg #[.slice AT g.nt cT,.slice AN g.nn cN,.slice AR g.R.length cR,.int .i64 g.s]) sv mb tb (List.replicate N (.slice none 0 0,[]))):=Hd (by
  have hs:=HB1.out.size;have hsz:(w1.setCell ⟨bb,4,none⟩ (.slice (some ⟨w1.heap.size,0,none⟩) N N)).heap.size=w1.heap.size:=by simp[World.setCell]
  have hf:=IFam.fresh (w1.setCell ⟨bb,4,none⟩ (.slice (some ⟨w1.heap.size,0,none⟩) N N)) (B:=w.heap.size) (n:=N) (by rw[hsz];exact hs) (by omega);rw[hsz]at hf;refine⟨((Chg.of_below HB1.out).set (X:=(·=bb)) (p:=⟨bb,4,none⟩) (.inr rfl) _).alloc _,?_,hf⟩;exact(HBLK1.out.set_ 4 (.slice (some ⟨w1.heap.size,0,none⟩) N N)).alloc _)
 have hbeg0:bg.take (g.nt+1)=List.replicate (g.nt+1) []:=by have h1:=HBG.out (g.nt+1) (by rw[HN.out];omega);rw[begAll_low _ (leR _)]at h1;exact(Option.some.inj h1).symm
 have HBEG0:=Hd hbeg0;have hnN:g.nt+1≤N:=by rw[HN.out];omega
 clear hbeg0 f4 x4 y0 l1 y1 y2 y3 hmk;generalize hgr:w1.heap.size=gr at *;go_loopw [2] (fun ss wr=>∃(s:Nat) (R:List (Value×List It)),s≤N∧g.nt<s∧ss=.int .i64 s∧Hid (Prp w0 w wr bb gr N (.agg #[.slice AT g.nt cT,.slice AN g.nn cN,.slice AR g.R.length cR,.int .i64 g.s]) sv mb tb R)∧Hid (R.map (·.2)=bg.take s++List.replicate (N-s) [])) (fun ss _=>N-(intOf ss).toNat)
 case atStart=>refine⟨g.nt+1,_,hnN,by omega,by go_num,HP0,Hd ?_⟩;rw[HBEG0.out,List.map_replicate,List.replicate_append_replicate];congr 1;omega
 case round=>
  rename World=>w9
  obtain⟨s,R,hsN,hns,rfl,HP,HE⟩:=hrel;obtain⟨hbx1,hbx2⟩:=HBX.out gr w9 R HP.out;obtain⟨z0,z1,z2,z3,z4⟩:=HP.out.cells rfl;have HTT:=Hd (HT.out w9 hbx1);have HN2:=HN.out;by_cases hlt:s<N
  ·obtain⟨l0,r,hl0,hr,hl1⟩:=begAll_succ (HBG.out (s+1) (by omega)) hns
   have hl2:=HBG.out s (by omega);rw[hl0]at hl2;cases hl2
   have HR:=Hd hr;have HL1:=Hd hl1;have hs2:s≤100000:=by omega
   have hsl:¬((g.top:Int)<(s:Int)):=by omega
   have hsl2:(s:Int)≤(g.top:Int):=by omega
   clear hl0 hr hl1 HN2;go_wp2_with (
            go_at_call 38;refine HTT.out.mono ?_;rintro e w2 ⟨rfl,hb2⟩
            have hm0:BMap (w2.alloc (.map #[] 0)) w2.heap.size 0 (.map []):=World.ownsMap_made (H:=Unit) w2 Tryz.prog 3 (plainElem Tryz.prog 4);obtain⟨w3,hput,hm3,hg3⟩:=met_put hm0 (by omega) hs2;have HP2:=Hd (HP.out.later hb2);have HB3:Hid (Below w2.heap.size w2 w3):=Hd (((Below.refl _ w2).alloc (leR _) _).trans ((Chg.of_map hg3).below (by simp) (fun k hk e=>by have e2:k=w2.heap.size:=e;omega)));have HM3:=Hd hm3;have HMT:=Hd (MetD.start.next hm0.isMap s);clear hm0 hm3 hg3 hb2)
   have hs3:=HB3.out.size;have HQ0:Hid (Prq w2 (w3.alloc (.cells #[.int .i64 s] 3)) w2.heap.size 1 (.slice (some ⟨w3.heap.size,0,none⟩) 1 1) (.slice none 0 0) [s] [s] [] (DataW.put (.map []) (klN s) (.lit (.bool true)))):=Hd (by
    refine⟨HB3.out.alloc hs3 _,⟨rfl,.inr ⟨w3.heap.size,0,1,#[.int .i64 s],rfl,hs3,Blk.new _ _ _,leR _,by decide,by simp,fun j u hu=>?_⟩⟩,⟨rfl,.inl ⟨rfl,rfl⟩⟩,HM3.out.alloc _,HMT.out,leR _,leR _⟩
    match j,hu with
    | 0,hu=>simpa [NatV] using hu
    | j+1,hu=>simp at hu)
   have HBX2:=Hd (HBX.out gr w2 R HP2.out);clear z0 z1 z2 z3 z4 hput;go_loopg [4,5] Gz.begFuel (fun f tv av wr=>∃(todo M:List Nat) (all:List It) (n:Nat) (D:DataW Unit),Hid (Prq w2 wr w2.heap.size n tv av todo M all D)∧Hid (g.begQ f todo M all=some r))
   case atStart=>exact⟨[s],[s],[],1,_,HQ0,HR⟩
   case round=>
    obtain⟨todo,M,all,n,D,HQ,HBQ⟩:=hrel;rename World=>w4
    have HP4:=Hd (HP2.out.later HQ.out.below);have HX4:=Hd (HBX.out gr w4 R HP4.out);obtain⟨At,ct,htv⟩:=HQ.out.todo.shape;obtain⟨Aa,ca,hav⟩:=own_shape HQ.out.all;subst htv;subst hav;cases gk with
    | zero=>have h:=HBQ.out;simp[Gz.begQ]at h
    | succ f=>
     cases todo with
     | nil=>
      obtain⟨rfl,hrl⟩:all=r∧all.length≤300:=by
       have h:=HBQ.out;unfold Gz.begQ at h;split at h
       · cases h
       · cases h;exact⟨rfl,by omega⟩
      obtain⟨z0,z1,z2,z3,z4⟩:=HP4.out.cells rfl;obtain⟨cur,hcur⟩:=HP4.out.fam.blk;have hgf:=Blk.frozen hcur s;have hgc:∃u,w4.cell? ⟨gr,s,none⟩=some u:=by have h1:=own_cell HP4.out.fam.row s (by omega);have h2:=HP4.out.fam.len;rw[pG,eG (by omega)]at h1;exact⟨_,h1⟩
      obtain⟨u,hgc⟩:=hgc;have hsN2:(s:Int)<(N:Int):=by omega
      have hgl:=Blk.lt hcur;have HPN:Hid (Prp w0 w (w4.setCell ⟨gr,s,none⟩ (.slice Aa all.length ca)) bb gr N (.agg #[.slice AT g.nt cT,.slice AN g.nn cN,.slice AR g.R.length cR,.int .i64 g.s]) sv mb tb (R.set s (.slice Aa all.length ca,all))):=Hd (by have hc:Chg (·=gr) w4 (w4.setCell ⟨gr,s,none⟩ (.slice Aa all.length ca)):=Chg.set (X:=(·=gr)) (Chg.refl _ w4) (p:=⟨gr,s,none⟩) (.inr rfl) _;have hg0:=(own_lt HP4.out.fam.row gr rfl).2;have hw2:=HP2.out.chg.size;refine⟨HP4.out.chg.set (p:=⟨gr,s,none⟩) (.inl hg0) _,hc.blk HP4.out.blk (Blk.ne_ HP4.out.blk hcur (by decide)),HP4.out.fam.lay (C:=w2.heap.size) (fun k x hx b hb=>(own_lt (HP2.out.fam.own k x hx) b hb).1) (by omega) HQ.out.all hw2⟩)
      have HEN:Hid ((R.set s (.slice Aa all.length ca,all)).map (·.2)=bg.take (s+1)++List.replicate (N-(s+1)) []):=Hd (by
       have hl:=congrArg List.length HL1.out;have hls:(bg.take s).length=s:=by rw[List.length_take,HBL.out];omega
       rw[List.map_set,HE.out,HL1.out,List.set_append_right _ _ (by omega),hls,Nat.sub_self,show N-s=(N-(s+1))+1 by omega,List.replicate_succ,List.set_cons_zero,List.append_assoc];rfl)
      clear hcur z0 z1 z2 z3;go_wp2_with fail
      go_roundw
      case rel=>exact⟨s+1,_,by omega,by omega,by go_num,HPN,HEN⟩
      case measure=>simp[intOf];omega
     | cons s1 todo=>
      have hq0:=HBQ.out;unfold Gz.begQ at hq0;have hgd:todo.length+M.length+all.length≤10000:=by
       split at hq0
       · cases hq0
       · omega
      rw[if_neg (by omega)]at hq0;have HBQ1:=Hd hq0;clear hq0;obtain⟨q,off,hAt,hql,hct,hqc⟩:=HQ.out.todo.at_ (by simp);subst hAt;have q0:w4.cell? ⟨q,off,none⟩=some (.int .i64 s1):=by have:=hqc 0 _ rfl;simpa [NatV] using this
      obtain⟨z0,z1,z2,z3,z4⟩:=HP4.out.cells rfl;have HRU:=Hd (rulesN_any HX4.out.2 (s:=s1));have hpos:(0:Int)<((todo.length:Int)+1):=by omega
      simp only[List.length_cons]at hct;obtain⟨off',hoff,hoff2⟩:∃off':Nat,(if ct=1 then some (⟨q,off,none⟩:Addr) else some ⟨q,off+1,none⟩)=some ⟨q,off',none⟩∧(off'=off+1∨(ct=1∧off'=off)):=by
       by_cases h1:ct=1
       · exact⟨off,by rw[if_pos h1],.inr ⟨h1,rfl⟩⟩
       · exact⟨off+1,by rw[if_neg h1],.inl rfl⟩
      have HOFF:=Hd hoff2;have hct1:(1:Int)≤(ct:Int):=by omega
      have hct2:((todo.length:Int)+1)≤(ct:Int):=by omega
      clear hqc hoff2;have hrl300:=rulesI_len g s1;go_wp2_with (first
       | (
          go_at_call 144;refine HRU.out.mono ?_;rintro e w5 ⟨o,rfl,Al,cl,rfl,hr5,hb5⟩
          have HR5:=Hd hr5;have HQ5:=Hd (HQ.out.later hb5);have HB5:=Hd hb5;clear hr5 hb5)
       | (
          at_builtin;refine wpList_app ElItem (.tmp 51) (.tmp 52) rfl rfl (base:=w2.heap.size) (n:=all.length) (m:=(g.rulesI s1).length) (N:=all.length+(g.rulesI s1).length) (xs:=all.flatMap itC) (news:=(g.rulesI s1).flatMap itC) rfl rfl HQ5.out.all (SrcOK.own HR5.out (itc_one _)) rfl (by unfold maxLen;omega) (by omega) HQ5.out.below.size ?_
          intro A6 c6 w6 r1 r2 r3;have HQ6:=Hd (HQ5.out.grown r1 r2);have HR6:Hid (w6.ownsRow w4.heap.size 194 2 (.slice Al (g.rulesI s1).length cl) (g.rulesI s1).length ((g.rulesI s1).flatMap itC)):=Hd ((Chg.of_grown r3.1).own HR5.out (fun b hb e=>by have h1:=(own_lt HR5.out b hb).2;have h2:=(own_lt HQ.out.all b e).1;omega))
          clear r1 r2 r3))
      have HQ7:Hid (Prq w2 w6 w2.heap.size n (.slice (some ⟨q,off',none⟩) todo.length (ct-1)) (.slice A6 (all.length+(g.rulesI s1).length) c6) todo M (all++g.rulesI s1) D):=Hd (HQ6.out.tailed (OwnQ.tail HQ6.out.todo HOFF.out));generalize hls:g.rulesI s1=ls at *;have HLS:=Hd hls;generalize hll:ls.length=ll at *;have HLL:=Hd hll;have hg:g.nt<s:=hns;clear hls hll q0 z0 z1 z2 z3 z4 hoff hct1 hct2 hpos hct HQ6 HQ5;go_loopw [4,56] (fun tv ii wr=>∃(j:Nat) (todo' M':List Nat) (n':Nat) (D':DataW Unit),j≤ll∧ii=.int .i64 j∧Hid (Prq w2 wr w2.heap.size n' tv (.slice A6 (all.length+ll) c6) todo' M' (all++ls) D')∧Hid ((todo',M')=(ls.take j).foldl g.begStep (todo,M))∧Hid (wr.ownsRow w4.heap.size 194 2 (.slice Al ll cl) ll (ls.flatMap itC))∧Hid (todo'.length≤todo.length+j∧M'.length≤M.length+j)) (fun _ ii _=>ll-(intOf ii).toNat)
      case atStart=>exact⟨0,todo,M,n,D,zeL _,rfl,HQ7,Hd rfl,HR6,Hd ⟨leR _,leR _⟩⟩
      case round=>
       obtain⟨j,todo',M',n',D',hj,rfl,HQ8,HE8,HR8,HL8⟩:=hrel;rename World=>w8
       have HP8:=Hd (HP2.out.later HQ8.out.below);have HX8:=Hd (HBX.out gr w8 R HP8.out);obtain⟨At8,ct8,htv8⟩:=HQ8.out.todo.shape;subst htv8;by_cases hlt2:j<ll
       · obtain⟨⟨xr,xd⟩,hx⟩:∃x,ls[j]?=some x:=⟨_,eG (by rw[HLL.out];exact hlt2)⟩
         have hxi:=rulesI_mem (g:=g) (s:=s1) (x:=(xr,xd)) (by rw[HLS.out];exact mG hx);have HPRS:Hid (Prs w8 (.slice Al ll cl) ls):=Hd (by have h:=HR8.out;rw[←HLL.out]at h ⊢;exact Prs.own h (by rw[HLL.out];omega));obtain⟨b,off2,hAl,hb,c0,c1⟩:=(HPRS.out).at_ hx;subst hAl;obtain⟨hxi1,hxi2⟩:=hxi;simp only at hxi1 hxi2 c0 c1;have hxd:xd≤100000:=by omega
         clear hxi2;have HE9:=Hd (foldl_take g.begStep ls (todo,M) j (xr,xd) hx);rw[←HE8.out]at HE9;have HW9:Hid (∀y,Below w8.heap.size w8 y→Prq w2 y w2.heap.size n' (.slice At8 todo'.length ct8) (.slice A6 (all.length+ll) c6) todo' M' (all++ls) D'∧y.ownsRow w4.heap.size 194 2 (.slice (some ⟨b,off2,none⟩) ll cl) ll (ls.flatMap itC)):=Hd (fun y hy=>⟨HQ8.out.later hy,own_below HR8.out hy⟩);obtain⟨s2,hs2⟩:∃s2,g.next (xr,xd)=s2:=⟨_,rfl⟩
         have hst2:s2≤g.top:=by rw[←hs2];exact HFIT.out.next_le _
         have hst3:s2≤100000:=by omega
         have HNXX:=Hd (fun y (hy:Below w8.heap.size w8 y)=>next_of (HX8.out.2.later hy) (k:=xr) (d:=xd) (by omega) (by omega));simp only[hs2]at HNXX;have HSX:=Hd hs2;have HB81:=Hd (below_alloc w8 (.cells #[.int .i64 xr,.int .i64 xd] 194));have HXB:=Hd (Blk.new w8 194 #[.int .i64 xr,.int .i64 xd]);clear hx hs2;cases hns2:g.non s2 with
         | false=>
           have HNS:=Hd hns2;have HE10:=Hd (HE9.out.trans (begStep_no g _ _ _ s2 HSX.out (.inl hns2)));clear hns2;go_wp2_with (first
             | (
               go_at_call 145;refine(HNXX.out _ HB81.out).mono ?_;rintro e w10 ⟨rfl,hb10⟩
               have HB10:=Hd (HB81.out.trans (hb10.mono HB81.out.size));have HP10:=Hd (HP8.out.later HB10.out);obtain⟨z0,z1,z2,z3,z4⟩:=HP10.out.cells rfl;clear hb10)
             | (
               go_at_call 40;refine(HNO.out _ (HBX.out gr _ R HP10.out).1 s2).mono ?_;rintro e w11 ⟨rfl,hb11⟩
               rw[HNS.out];have HB11:=Hd (HB10.out.trans (hb11.mono HB10.out.size));have HQ11:=Hd (HW9.out _ HB11.out);clear hb11))
           go_roundw
           case rel=>exact⟨j+1,todo',M',n',D',by omega,by go_num,Hd HQ11.out.1,Hd HE10.out.symm,Hd HQ11.out.2,Hd (by have:=HL8.out;omega)⟩
           case measure=>simp[intOf];omega
         | true=>
           have HNS:=Hd hns2;by_cases hm:s2∈M'
           · have HE10:=Hd (HE9.out.trans (begStep_no g _ _ _ s2 HSX.out (.inr hm)))
             have HM:=Hd hm;clear hns2 hm;go_wp2_with (first
              | (
                 go_at_call 145;refine(HNXX.out _ HB81.out).mono ?_;rintro e w10 ⟨rfl,hb10⟩
                 have HB10:=Hd (HB81.out.trans (hb10.mono HB81.out.size));have HP10:=Hd (HP8.out.later HB10.out);obtain⟨z0,z1,z2,z3,z4⟩:=HP10.out.cells rfl;clear hb10)
              | (
                 go_at_call 40;refine(HNO.out _ (HBX.out gr _ R HP10.out).1 s2).mono ?_;rintro e w11 ⟨rfl,hb11⟩
                 rw[HNS.out];have HB11:=Hd (HB10.out.trans (hb11.mono HB10.out.size));have HQ11:=Hd (HW9.out _ HB11.out);have hlk:=met_look HQ11.out.1.map HQ11.out.1.met hst3;rw[decide_eq_true HM.out]at hlk;clear hb11))
             go_roundw
             case rel=>exact⟨j+1,todo',M',n',D',by omega,by go_num,Hd HQ11.out.1,Hd HE10.out.symm,Hd HQ11.out.2,Hd (by have:=HL8.out;omega)⟩
             case measure=>simp[intOf];omega
           · have HE10:=Hd (HE9.out.trans (begStep_yes g _ _ _ s2 HSX.out hns2 hm))
             have HM:=Hd hm;have hl8:=HL8.out;clear hns2 hm;go_wp2_with (first
              | (
                 at_builtin;refine wpList_appQ ElIntQ (.tmp 77) (.tmp 79) rfl rfl (base:=w2.heap.size) (n:=todo'.length) (m:=1) (N:=todo'.length+1) (xs:=todo'.map NatV) (news:=[.int .i64 s2]) rfl rfl (HQ12.out.later (below_alloc w12 (.cells #[.int .i64 s2] 3))).todo (SrcOK.blk (c:=1) (cs:=[.int .i64 s2]) (Blk.new w12 3 _) rfl (by simp[Value.oneCell'])) (by omega) rfl (by unfold maxLen;omega) (by omega) (HQ12.out.later (below_alloc w12 (.cells #[.int .i64 s2] 3))).below.size ?_
                 intro A13 c13 w13 r1 r2 r3;have HQ13:=Hd ((HQ12.out.later (below_alloc w12 (.cells #[.int .i64 s2] 3))).added r1 r2);have HR13:=Hd (by have h:=own_below HR12.out (below_alloc w12 (.cells #[.int .i64 s2] 3));exact r2.own h (.inr (by decide)))
                 clear r1 r2 r3)
              | first
                | (
                  go_at_call 145;refine(HNXX.out _ HB81.out).mono ?_;rintro e w10 ⟨rfl,hb10⟩
                  have HB10:=Hd (HB81.out.trans (hb10.mono HB81.out.size));have HP10:=Hd (HP8.out.later HB10.out);obtain⟨z0,z1,z2,z3,z4⟩:=HP10.out.cells rfl;clear hb10)
                | (
                  go_at_call 40;refine(HNO.out _ (HBX.out gr _ R HP10.out).1 s2).mono ?_;rintro e w11 ⟨rfl,hb11⟩
                  rw[HNS.out];have HB11:=Hd (HB10.out.trans (hb11.mono HB10.out.size));have HQ11:=Hd (HW9.out _ HB11.out);have hlk:=met_look HQ11.out.1.map HQ11.out.1.met hst3;rw[decide_eq_false HM.out]at hlk;have hcnt:=HQ11.out.1.cnt;obtain⟨w12,hput,hm12,hg12⟩:=met_put HQ11.out.1.map (by omega) hst3;have HQ12:=Hd (HQ11.out.1.mapped hm12 hg12);have HR12:=Hd ((Chg.of_map hg12).own HQ11.out.2 (fun b hb=>map_neo HQ11.out.1.map HQ11.out.2 b hb));clear hm12 hg12;clear hb11))
             go_roundw
             case rel=>exact⟨j+1,todo'++[s2],s2::M',n'+1,_,by omega,by go_num,Hd (by simpa using HQ13.out),Hd HE10.out.symm,HR13,Hd (by simp;omega)⟩
             case measure=>simp[intOf];omega
       · obtain rfl:j=ll:=by omega
         have HE9:Hid ((todo',M')=ls.foldl g.begStep (todo,M)):=Hd (by have:=HE8.out;rw[tkL (by rw[HLL.out];omega)]at this;exact this);have HBN:Hid (g.begQ f todo' M' (all++ls)=some r):=Hd (by have h:=HBQ1.out;rw[←HE9.out]at h;exact h);have HQN:Hid (Prq w2 w8 w2.heap.size n' (.slice At8 todo'.length ct8) (.slice A6 (all.length+j) c6) todo' M' (all++ls) D'):=HQ8;go_wp2_with fail
         go_roundg f
         case measure=>omega
         case rel=>exact⟨todo',M',all++ls,n',D',HQN,HBN⟩
  ·obtain rfl:s=N:=by omega
   have HEE:Hid (R.map (·.2)=bg):=Hd (by have h:=HE.out;rw[tkL (by rw[HBL.out];omega),Nat.sub_self]at h;simpa using h);have hsl:¬((s:Int)≤(g.top:Int)):=by omega
   clear HN2;go_wp2_with (
            go_at_call 38;refine HTT.out.mono ?_;rintro e w2 ⟨rfl,hb2⟩
            have HP2:=Hd (HP.out.later hb2);clear hb2)
   go_end0
   exact⟨rfl,gr,R,HP2.out,HEE.out⟩
end Go.Proofs.YthaacmablcpdfaaGreatDoor
namespace Go.Proofs.YthaacmablcpdfaaGreatDoor
open Go.RowKit
open Go.Maps (IsMap Keyed)
set_option linter.unusedVariables false
set_option maxRecDepth 100000
theorem arrKeyQ:WideMaps.ArrKey Tryz.prog 183 3 2:=⟨Tryz.underlying183,by kernel_rfl,by kernel_rfl,by kernel_rfl⟩
theorem lawArrQ:Keyed Tryz.prog 183:=Maps.Keyed.of_law arrKeyQ.law
theorem typesQ:∃m,Tryz.prog.types.size=m+1:=⟨Tryz.prog.types.size-1,by have h:1≤Tryz.prog.types.size:=Nat.le_of_ble_eq_true (by kernel_rfl);omega⟩
def klP(i s:Nat):Lit:=.string (keyBytes [.int .i64 i,.int .i64 s])
theorem keyOf_klP{i s:Nat}(hi:i≤1000000)(hs:s≤1000000):keyOf Tryz.prog 183 (.agg #[.int .i64 (i:Int),.int .i64 (s:Int)])=some (klP i s):=WideMaps.keyOf_pair arrKeyQ Tryz.underlying3 typesQ (WalkArith.wf_i64 (by omega)) (WalkArith.wf_i64 (by omega))
theorem klP_key(i s:Nat):WideAt.IsKeyLit (klP i s):=by unfold klP;simp[WideAt.IsKeyLit]
theorem klP_inj{i s j t:Nat}(hi:i≤1000000)(hs:s≤1000000)(hj:j≤1000000)(ht:t≤1000000)(h:klP i s=klP j t):i=j∧s=t:=by have h1:=keyOf_klP hi hs;rw[h]at h1;have:=lawArrQ.inj h1 (keyOf_klP hj ht);injection this with this;have e:=congrArg Array.toList this;simp only[List.cons.injEq,Value.int.injEq,and_true,true_and]at e;omega
abbrev TMap(w:World)(tb n:Nat)(D:DataW Unit):Prop:=w.ownsMap Tryz.prog 183 (plainElem Tryz.prog 3) tb n D
def ToD(D:DataW Unit)(m:Nat→Nat→Option Nat):Prop:=∀i s:Nat,i≤100000→s≤100000→(∀j,m i s=some j→Maps.has D (klP i s)=true∧∀z,D.atKey (klP i s) z=.lit (.int .i64 (j:Int)))∧(m i s=none→Maps.has D (klP i s)=false∧∀z,D.atKey (klP i s) z=z)
theorem ToD.start:ToD (.map []) (fun _ _=>none):=fun i s _ _=>⟨(fun j h=>by cases h),fun _=>⟨rfl,fun _=>rfl⟩⟩
theorem ToD.next{D:DataW Unit}{m:Nat→Nat→Option Nat}(h:ToD D m)(hm:IsMap D){i s j:Nat}(hi:i≤100000)(hs:s≤100000):ToD (D.put (klP i s) (.lit (.int .i64 (j:Int)))) (fun a b=>if a=i∧b=s then some j else m a b):=by
 intro a b ha hb;by_cases hq:a=i∧b=s
 ·obtain⟨rfl,rfl⟩:=hq
  refine⟨fun j' hj=>?_,fun hj=>?_⟩
  ·simp only[and_self,if_true]at hj
   cases hj
   exact⟨Maps.has_put_same hm (klP_key _ _) _,fun z=>Maps.atKey_put_same hm (klP_key _ _) _ _⟩
  ·simp only[and_self,if_true]at hj
   cases hj
 ·have hne:klP a b≠klP i s:=fun e=>hq (klP_inj (by omega) (by omega) (by omega) (by omega) e)
  simp only[if_neg hq,Maps.has_put_other hne,Maps.atKey_put_other hne];exact h a b ha hb
theorem ToD.congr{D:DataW Unit}{m m':Nat→Nat→Option Nat}(h:ToD D m)(he:∀i s,m i s=m' i s):ToD D m':=by
 have:m=m':=funext fun i=>funext fun s=>he i s
 rw[←this];exact h
theorem to_look{w:World}{tb n:Nat}{D:DataW Unit}{m:Nat→Nat→Option Nat}(h:TMap w tb n D)(hm:ToD D m){i s:Nat}(hi:i≤100000)(hs:s≤100000) :
  (Instr.lookup 176 (.map (some tb)) (.agg #[.int .i64 (i:Int),.int .i64 (s:Int)]) true).run Tryz.prog w=.ok (.tuple #[.int .i64 (((m i s).getD 0:Nat):Int),.bool (m i s).isSome]) w:=by
 have hk:=keyOf_klP (i:=i) (s:=s) (by omega) (by omega);have hz:=plainElem_int (H:=Unit) (a:=0) Tryz.underlying3 (WalkArith.wf_i64 (by omega));obtain⟨v,ps,h1,h2⟩:=h.look_ok lawArrQ Tryz.underlying176 (zeroIntR w) hz hk;have h1':(Instr.lookup 176 (.map (some tb)) (.agg #[.int .i64 (i:Int),.int .i64 (s:Int)]) true).run Tryz.prog w=.ok (.tuple #[v,.bool (Maps.has D (klP i s))]) w:=h1;have h2':plainElem Tryz.prog 3 v=some (D.atKey (klP i s) (.lit (.int .i64 0)),ps):=h2;obtain⟨c,rfl,hc,-⟩:=plainElem_int_inv Tryz.underlying3 h2';have hc1:D.atKey (klP i s) (.lit (.int .i64 0))=.lit (.int .i64 c):=congrArg Prod.fst hc
 rw[h1'];obtain⟨a1,a2⟩:=hm i s hi hs;cases hq:m i s with
 | some j=>obtain⟨b1,b2⟩:=a1 j hq;rw[b2]at hc1;simp only[DataW.lit.injEq,Lit.int.injEq,true_and]at hc1;rw[b1,←hc1];rfl
 | none=>obtain⟨b1,b2⟩:=a2 hq;rw[b2]at hc1;simp only[DataW.lit.injEq,Lit.int.injEq,true_and]at hc1;rw[b1,←hc1];rfl
theorem to_put{w:World}{tb n:Nat}{D:DataW Unit}(h:TMap w tb n D)(hn:n≤10000000){i s c:Nat}(hi:i≤100000)(hs:s≤100000)(hc:c≤100000) :
  ∃w',(Instr.mapUpdate 176 (.map (some tb)) (.agg #[.int .i64 (i:Int),.int .i64 (s:Int)]) (.int .i64 (c:Int))).run Tryz.prog w=.ok () w'∧TMap w' tb (n+1) (D.put (klP i s) (.lit (.int .i64 (c:Int))))∧w.grownBy w' (some tb):=
 h.update lawArrQ Tryz.underlying176 (by unfold maxLen;omega) (keyOf_klP (by omega) (by omega)) (plainElem_int Tryz.underlying3 (WalkArith.wf_i64 (by omega)))
def edgeOf(E:List (List It))(i s:Nat):Option Nat:=((E.getD i []).find? (fun x=>x.1==s)).map (·.2)
theorem edgeOf_nil(i s:Nat):edgeOf [] i s=none:=by simp[edgeOf]
theorem edgeOf_more(E:List (List It))(i s:Nat):edgeOf (E++[[]]) i s=edgeOf E i s:=by
 unfold edgeOf;congr 1;congr 1;rw[dG,dG];by_cases hi:i<E.length
 ·rw[gL hi]
 ·rw[nG (l:=E) (by omega)]
  by_cases h2:i=E.length
  ·subst h2;simp
  ·rw[nG (by simp;omega)]
theorem edgeOf_put(E:List (List It))(t:List It)(s j:Nat)(ht:∀x∈t,x.1<s)(i' s':Nat):(if i'=E.length∧s'=s then some j else edgeOf (E++[t]) i' s')=edgeOf (E++[t++[(s,j)]]) i' s':=by
 unfold edgeOf;rw[dG,dG];by_cases h1:i'=E.length
 ·subst h1
  have e1:(E++[t])[E.length]?=some t:=by simp
  have e2:(E++[t++[(s,j)]])[E.length]?=some (t++[(s,j)]):=by simp
  rw[e1,e2];simp only[Option.getD_some,List.find?_append,true_and];by_cases h2:s'=s
  ·subst h2
   have:t.find? (fun x=>x.1==s')=none:=List.find?_eq_none.2 fun x hx=>by have:=ht x hx;simp;omega
   rw[this];simp
  ·rw[if_neg h2]
   have h3:(s==s')=false:=beq_false_of_ne (fun e=>h2 e.symm);cases t.find? (fun x=>x.1==s')<;>simp[h3]
 ·rw[if_neg (fun h=>h1 h.1)]
  by_cases hi:i' < E.length
  ·rw[gL hi,gL hi]
  ·rw[nG (l:=E++[t]) (by simp;omega),nG (l:=E++[t++[(s,j)]]) (by simp;omega)]
structure Rising(t:List It)(a b:Nat):Prop where
 up:t.Pairwise fun x y=>x.1<y.1
 btw:∀x∈t,a≤x.1∧x.1<b
theorem Rising.add{t:List It}{a s:Nat}(h:Rising t a s)(ha:a≤s)(j:Nat):Rising (t++[(s,j)]) a (s+1):=by
 refine⟨List.pairwise_append.2 ⟨h.up,List.pairwise_singleton _ _,fun x hx y hy=>?_⟩,fun x hx=>?_⟩
 ·rw[mS.1 hy]
  exact(h.btw x hx).2
 ·rcases mA.1 hx with h1|h1
  ·have:=h.btw x h1;omega
  ·rw[mS.1 h1];simp only;omega
theorem Rising.skip{t:List It}{a s:Nat}(h:Rising t a s):Rising t a (s+1):=⟨h.up,fun x hx=>by have:=h.btw x hx;omega⟩
def lows(t:List It)(s:Nat):List It:=t.filter fun x=>decide (x.1<s)
theorem lows_next{t:List It}{a b:Nat}(h:Rising t a b)(s:Nat):lows t (s+1)=match t.find? (fun x=>x.1==s) with|some x=>lows t s++[x]|none=>lows t s:=by
 unfold lows;have key:∀t:List It,(t.Pairwise fun x y=>x.1<y.1)→t.filter (fun x=>decide (x.1<s+1))=match t.find? (fun x=>x.1==s) with|some x=>t.filter (fun x=>decide (x.1<s))++[x]|none=>t.filter (fun x=>decide (x.1<s)):=by
  intro t;induction t with
  | nil=>intro _;rfl
  | cons x t ih=>
   intro hp;obtain⟨h1,h2⟩:=List.pairwise_cons.1 hp;rw[List.filter_cons,List.filter_cons,List.find?_cons];by_cases hx:x.1<s
   ·rw[decide_eq_true hx,decide_eq_true (by omega:x.1<s+1),if_pos rfl,if_pos rfl,ih h2,show (x.1==s)=false from beq_false_of_ne (by omega)]
    cases t.find? (fun x=>x.1==s)<;>rfl
   ·by_cases hs:x.1=s
    ·have e1:t.filter (fun x=>decide (x.1<s+1))=[]:=List.filter_eq_nil_iff.2 fun y hy=>by have:=h1 y hy;simp;omega
     have e2:t.filter (fun x=>decide (x.1<s))=[]:=List.filter_eq_nil_iff.2 fun y hy=>by have:=h1 y hy;simp;omega
     rw[decide_eq_false hx,decide_eq_true (by omega:x.1<s+1),e1,e2,show (x.1==s)=true by simp[hs]];rfl
    ·rw[decide_eq_false hx,decide_eq_false (by omega:¬x.1<s+1),ih h2,show (x.1==s)=false from beq_false_of_ne hs]
     rfl
 exact key t h.up
theorem lows_all{t:List It}{a b:Nat}(h:Rising t a b):lows t b=t:=List.filter_eq_self.2 fun x hx=>by have:=(h.btw x hx).2;simpa using this
theorem lows_none{t:List It}{a b:Nat}(h:Rising t a b):lows t a=[]:=List.filter_eq_nil_iff.2 fun x hx=>by have:=(h.btw x hx).1;simp;omega
def ItG(g:Gz)(x:It):Prop:=x.1≤g.R.length∧x.2≤8
theorem right_len{g:Gz}(h:g.Fit)(k:Nat):(g.right k).length≤8:=by
 unfold Gz.right Gz.rule;split
 ·simp
 ·rw[dG]
  cases hq:g.R[k]? with
  | none=>simp
  | some r=>exact h.short r (mG hq)
theorem next_pos{g:Gz}{x:It}(h:g.next x≠0):x.2<(g.right x.1).length:=by
 unfold Gz.next at h;rw[dG]at h;cases hq:(g.right x.1)[x.2]? with
 | none=>rw[hq]at h;exact absurd rfl h
 | some y=>exact(sG.1 hq).1
structure RowsOk(g:Gz)(R:List (List It)):Prop where
 ok:∀r∈R,∀x∈r,ItG g x
 zero:R.getD 0 []=[]
theorem RowsOk.move{g:Gz}(hf:g.Fit){R:List (List It)}(h:RowsOk g R){x:It}(hx:x.1≤g.R.length):RowsOk g (moveI g R x):=by
 unfold moveI;split
 ·exact h
 ·rename_i hn
  have hp:=next_pos hn;have h8:=right_len hf x.1;refine⟨fun r hr=>?_,?_⟩
  ·obtain⟨i,hi⟩:=List.mem_iff_getElem?.1 hr
   unfold addI at hi;rw[List.getElem?_modify]at hi;cases hq:R[i]? with
   | none=>rw[hq]at hi;cases hi
   | some r0=>
    rw[hq]at hi;have h0:=h.ok r0 (mG hq);simp only[Option.map_eq_map,Option.map_some,Option.some.injEq]at hi;subst hi;split
    ·intro y hy
     rcases mA.1 hy with h1|h1
     ·exact h0 y h1
     ·rw[mS.1 h1];exact⟨hx,by simp only;omega⟩
    ·exact h0
  ·have h0:=h.zero
   unfold addI;rw[dG]at h0 ⊢;rw[List.getElem?_modify];cases hq:R[0]? with
   | none=>rfl
   | some r0=>rw[hq]at h0;simp only[Option.map_eq_map,Option.map_some,Option.getD_some]at h0 ⊢;rw[if_neg hn];exact h0
theorem RowsOk.moves{g:Gz}(hf:g.Fit):∀(l:List It) {R:List (List It)} (_:RowsOk g R) (_:∀x∈l,x.1≤g.R.length),RowsOk g (l.foldl (moveI g) R)
 | [],R,h,_=>h
 | x::l,R,h,hl=>RowsOk.moves hf l (h.move hf (hl x (by simp))) (fun y hy=>hl y (by simp[hy]))
theorem RowsOk.steps{g:Gz}(hf:g.Fit){bg:List (List It)}(hb:∀r∈bg,∀x∈r,x.1≤g.R.length):∀(l:List It) (p:List (List It)×List Nat) (_:RowsOk g p.1) (_:∀x∈l,x.1≤g.R.length),RowsOk g (l.foldl (g.stepA bg) p).1
 | [],p,h,_=>h
 | x::l,p,h,hl=>by
  refine RowsOk.steps hf hb l _ ?_ (fun y hy=>hl y (by simp[hy]));unfold Gz.stepA;simp only;split
  ·exact h.move hf (hl x (by simp))
  ·refine RowsOk.moves hf _ (h.move hf (hl x (by simp))) ?_
   rw[dG];cases hq:bg[g.next x]? with
   | none=>intro y hy;simp at hy
   | some r=>exact hb r (mG hq)
theorem steps_short{g:Gz}{bg:List (List It)}(hb:∀r∈bg,r.length≤300):∀(l:List It) (p:List (List It)×List Nat) (m:Nat) (_:Short m p.1),Short (m+301*l.length) (l.foldl (g.stepA bg) p).1
 | [],p,m,h=>h
 | x::l,p,m,h=>by
  have h1:Short (m+301) (g.stepA bg p x).1:=by
   unfold Gz.stepA;simp only;split
   ·exact fun r hr=>leT ((h.move g x) r hr) (by omega)
   ·have hs:(bg.getD (g.next x) []).length≤300:=by
     rw[dG];cases hq:bg[g.next x]? with
     | none=>simp
     | some r=>exact hb r (mG hq)
    exact fun r hr=>leT (((h.move g x).moves g (bg.getD (g.next x) [])) r hr) (by omega)
  have:=steps_short (g:=g) hb l _ _ h1;rw[List.length_cons,show m+301*(l.length+1)=m+301+301*l.length by omega];exact this
theorem dedA_mem:∀(l:List It) (x:It),x∈dedA l→x∈l
 | [],x,h=>h
 | [y],x,h=>h
 | y::z::l,x,h=>by
  unfold dedA at h;split at h
  ·exact List.mem_cons_of_mem _ (dedA_mem (z::l) x h)
  ·rcases List.mem_cons.1 h with rfl|h
   ·exact List.mem_cons_self ..
   ·exact List.mem_cons_of_mem _ (dedA_mem (z::l) x h)
theorem stepsI_ok{g:Gz}(hf:g.Fit){bg:List (List It)}(hb:∀r∈bg,r.length≤300∧∀x∈r,x.1≤g.R.length∧x.2≤9000){K:List It}(hK:∀x∈K,ItG g x)(hl:K.length≤300):(∀r∈g.stepsI bg K,r.length≤100000∧∀x∈r,ItG g x)∧(g.stepsI bg K).getD 0 []=[]:=by
 have h1:=RowsOk.steps hf (bg:=bg) (fun r hr x hx=>((hb r hr).2 x hx).1) K (List.replicate (g.top+1) [],[]) ⟨(fun r hr x hx=>by simp at hr;rw[hr]at hx;cases hx),(by simp)⟩ (fun x hx=>(hK x hx).1);have h2:=steps_short (g:=g) (bg:=bg) (fun r hr=>(hb r hr).1) K (List.replicate (g.top+1) [],[]) 0 (fun r hr=>by rw[List.eq_of_mem_replicate hr];simp);unfold Gz.stepsI;refine⟨fun r hr=>?_,?_⟩
 ·obtain⟨r0,hr0,rfl⟩:=List.mem_map.1 hr
  have h3:=h2 r0 hr0;have h4:=dedA_len (sortI r0);rw[sortI_len]at h4;refine⟨by unfold orderL;omega,fun x hx=>?_⟩;unfold orderL at hx;exact h1.ok r0 hr0 x ((sortI_perm r0).mem_iff.1 (dedA_mem _ _ hx))
 ·have h0:=h1.zero
  rw[dG]at h0 ⊢;rw[pG];cases hq:((List.foldl (g.stepA bg) (List.replicate (g.top+1) [],[]) K).1)[0]? with
  | none=>rfl
  | some r=>rw[hq]at h0;simp only[Option.getD_some]at h0;subst h0;rfl
end Go.Proofs.YthaacmablcpdfaaGreatDoor
namespace Go.Proofs.YthaacmablcpdfaaGreatDoor
open Go.RowKit
open Go.Maps (IsMap)
set_option linter.unusedVariables false
set_option maxRecDepth 100000
theorem own_own_ne{w:World}{B1 B2 n1 n2 s1 s2:Nat}{e1 e2:TypeId}{v1 v2:Value}{x1 x2:List Value}(h1:w.ownsRow B1 e1 s1 v1 n1 x1)(h2:w.ownsRow B2 e2 s2 v2 n2 x2)(hne:e1≠e2){b:Nat}(hb:v1.ownBlock=some b):v2.ownBlock≠some b:=by
 rcases h1.2 with⟨rfl,_⟩|⟨g,cap,cur,rfl,_,hgg,_⟩
 ·cases hb
 ·cases hb
  exact own_blk_ne h2 (show Blk w g e1 cur from hgg) (Ne.symm hne)
theorem Bld.chg{X:Nat→Prop}{w0 w w':World}{bb mb tb:Nat}{v:Value}{g:Gz}{bv sv:Value}{V:List (Value×Value)}{L:List (List It)}{D:DataW Unit}(h:Bld w0 w bb mb tb v g bv sv V L D)(hc:Chg X w w')(h1:¬X bb)(h2:¬X mb)(h3:∀k,sv.ownBlock=some k→¬X k)(h4:∀(i:Nat) (x:Value×Value),V[i]?=some x→∀k,x.1.ownBlock=some k→¬X k)(hB:∀k,X k→w0.heap.size≤k):Bld w0 w' bb mb tb v g bv sv V L D:=
 ⟨h.gn,hc.blk h.blk h1,hc.own h.rows h3,h.len,fun k x l hx hl=>hc.own (h.items k x l hx hl) (h4 k x hx),hc.map h.map h2,h.at_,h.ok,h.b0,h.below.trans (hc.below h.below.size (fun k hk e=>by have:=hB k e;omega)),h.small,h.nil_⟩
structure Bst(w0 wr:World)(bb mb tb gr0 c0:Nat)(v sv:Value)(g:Gz)(bg:List (List It))(V:List (Value×Value))(L:List (List It))(D:DataW Unit)(nT:Nat)(DT:DataW Unit)(m:Nat→Nat→Option Nat):Prop where
 bld:Bld w0 wr bb mb tb v g (.slice (some ⟨gr0,0,none⟩) (g.top+1) c0) sv V L D
 fam:∃R0,IFam wr w0.heap.size gr0 (g.top+1) c0 R0∧R0.map (·.2)=bg
 tm:TMap wr tb nT DT
 td:ToD DT m
 ne:mb≠tb
 lo:w0.heap.size≤tb
section
variable {w0 wr w2:World} {bb mb tb gr0 c0:Nat} {v sv:Value} {g:Gz} {bg:List (List It)} {V:List (Value×Value)} {L:List (List It)} {D:DataW Unit} {nT:Nat} {DT:DataW Unit} {m:Nat→Nat→Option Nat}
theorem Bst.later(h:Bst w0 wr bb mb tb gr0 c0 v sv g bg V L D nT DT m)(hb:Below wr.heap.size wr w2):Bst w0 w2 bb mb tb gr0 c0 v sv g bg V L D nT DT m:=by obtain⟨R0,h1,h2⟩:=h.fam;exact⟨h.bld.later hb,⟨R0,h1.later hb,h2⟩,(Chg.of_below (X:=fun _=>False) hb).map h.tm id,h.td,h.ne,h.lo⟩
theorem Bst.begs(h:Bst w0 wr bb mb tb gr0 c0 v sv g bg V L D nT DT m)(hs:∀l∈bg,l.length≤300∧∀x∈l,x.1≤g.R.length∧x.2≤9000):Begs wr bb g bg:=by obtain⟨R0,h1,h2⟩:=h.fam;refine⟨⟨_,gr0,_,c0,R0,?_,h1,h2,rfl⟩,hs⟩;obtain⟨AT,cT,AN,cN,AR,cR,rfl,-,-⟩:=h.bld.gn.open_;exact h.bld.blk.cell 4
def XSt(bb mb:Nat)(sv:Value)(k:Nat):Prop:=k=bb∨k=mb∨sv.ownBlock=some k
theorem Bst.keep(h:Bst w0 wr bb mb tb gr0 c0 v sv g bg V L D nT DT m)(hc:Chg (XSt bb mb sv) wr w2){B gr n c:Nat}{R:List (Value×List It)}(hf:IFam wr B gr n c R):IFam w2 B gr n c R:=by
 obtain⟨cur,hcur⟩:=hf.blk;refine hf.chg hc ?_ ?_
 ·rintro(e|e|e)
  ·exact Blk.ne_ h.bld.blk hcur (by decide) e.symm
  ·exact map_ne h.bld.map hcur e
  ·exact own_blk_ne h.bld.rows hcur (by decide) e
 ·intro k x hx b hb
  rintro(e|e|e)
  ·exact own_blk_ne (hf.own k x hx) h.bld.blk (by decide) (by rw[hb,e])
  ·exact map_neo h.bld.map (hf.own k x hx) b hb e
  ·exact own_own_ne h.bld.rows (hf.own k x hx) (by decide) e hb
theorem Bst.stated{sv':Value}{V':List (Value×Value)}{L':List (List It)}{D':DataW Unit}(h:Bst w0 wr bb mb tb gr0 c0 v sv g bg V L D nT DT m)(hb:Bld w0 w2 bb mb tb v g (.slice (some ⟨gr0,0,none⟩) (g.top+1) c0) sv' V' L' D')(hc:Chg (XSt bb mb sv) wr w2):Bst w0 w2 bb mb tb gr0 c0 v sv' g bg V' L' D' nT DT m:=by
 obtain⟨R0,h1,h2⟩:=h.fam;refine⟨hb,⟨R0,h.keep hc h1,h2⟩,hc.map h.tm ?_,h.td,h.ne,h.lo⟩;rintro(e|e|e)
 ·exact map_ne h.tm h.bld.blk e.symm
 ·exact h.ne e.symm
 ·exact map_neo h.tm h.bld.rows _ e rfl
theorem Bst.keepT(h:Bst w0 wr bb mb tb gr0 c0 v sv g bg V L D nT DT m)(hg:wr.grownBy w2 (some tb)){B gr n c:Nat}{R:List (Value×List It)}(hf:IFam wr B gr n c R):IFam w2 B gr n c R:=by have hc:Chg (·=tb) wr w2:=Chg.of_map hg;obtain⟨cur,hcur⟩:=hf.blk;exact hf.chg hc (map_ne h.tm hcur) (fun k x hx b hb=>map_neo h.tm (hf.own k x hx) b hb)
theorem Bst.mapped{DT':DataW Unit}{m':Nat→Nat→Option Nat}(h:Bst w0 wr bb mb tb gr0 c0 v sv g bg V L D nT DT m)(hg:wr.grownBy w2 (some tb))(ht:TMap w2 tb (nT+1) DT')(hd:ToD DT' m'):Bst w0 w2 bb mb tb gr0 c0 v sv g bg V L D (nT+1) DT' m':=by have hc:Chg (·=tb) wr w2:=Chg.of_map hg;obtain⟨R0,h1,h2⟩:=h.fam;refine⟨h.bld.chg hc (map_ne h.tm h.bld.blk) h.ne (fun k hk=>map_neo h.tm h.bld.rows k hk) (fun i x hx k hk=>?_) (fun k e=>by rw[show k=tb from e];exact h.lo),⟨R0,h.keepT hg h1,h2⟩,ht,hd,h.ne,h.lo⟩;have hi:=(sG.1 hx).1;exact map_neo h.tm (h.bld.items i x _ hx (eG (by rw[h.bld.len];exact hi))) k hk
theorem Bst.congr{m':Nat→Nat→Option Nat}(h:Bst w0 wr bb mb tb gr0 c0 v sv g bg V L D nT DT m)(he:∀i s,m i s=m' i s):Bst w0 wr bb mb tb gr0 c0 v sv g bg V L D nT DT m':=
 ⟨h.bld,h.fam,h.tm,h.td.congr he,h.ne,h.lo⟩
end
theorem ElTrans:El Tryz.prog 69 127 2 16:=El.of (z:=.agg #[.int .i64 0,.int .i64 0]) Tryz.underlying69 (by kernel_rfl) rfl (by decide)
structure Trs(w0 wr:World)(bb tb:Nat)(cs:Array Value)(sb sc n:Nat)(V:List (Value×Value))(L T:List (List It))(nT:Nat)(DT:DataW Unit):Prop where
 blk:Blk wr bb 179 cs
 rows:wr.ownsRow w0.heap.size 71 2 (.slice (some ⟨sb,0,none⟩) n sc) n (V.flatMap stC)
 len:V.length=n∧L.length=n∧T.length=n
 items:∀(k:Nat) (x:Value×Value) (l:List It),V[k]?=some x→L[k]?=some l→wr.ownsRow w0.heap.size 194 2 x.1 l.length (l.flatMap itC)
 trans:∀(k:Nat) (x:Value×Value) (l:List It),V[k]?=some x→T[k]?=some l→wr.ownsRow w0.heap.size 127 2 x.2 l.length (l.flatMap itC)
 apart:∀(i j:Nat) (x y:Value×Value),V[i]?=some x→V[j]?=some y→i≠j→∀k,x.2.ownBlock=some k→y.2.ownBlock≠some k
 tm:TMap wr tb nT DT
 below:Below w0.heap.size w0 wr
 small:n≤100000
theorem stC_len(V:List (Value×Value)):(V.flatMap stC).length=V.length*2:=fm_len stC 2 (fun _=>rfl) V
theorem stC_set(r:List (Value×Value))(k:Nat)(a b u:Value)(hk:r[k]?=some (a,b)):(r.flatMap stC).set (k*2+1) u=(r.set k (a,u)).flatMap stC:=by
 induction r generalizing k with
 | nil=>simp at hk
 | cons x r ih=>
  cases k with
  | zero=>simp at hk;subst hk;rfl
  | succ k=>
   have e1:(k+1)*2+1=k*2+1+2:=by omega
   have h:=ih k (by simpa using hk);rw[List.flatMap_cons,List.set_cons_succ,List.flatMap_cons,←h,e1];rfl
theorem st_cells{w:World}{B b c n:Nat}{V:List (Value×Value)}(h:w.ownsRow B 71 2 (.slice (some ⟨b,0,none⟩) n c) n (V.flatMap stC)){k:Nat}{x:Value×Value}(hx:V[k]?=some x):w.cell? ⟨b,k*2,none⟩=some x.1∧w.cell? ⟨b,k*2+1,none⟩=some x.2:=by obtain⟨hk,hx2⟩:=sG.1 hx;have hln:=h.1;rw[stC_len]at hln;have g0:=fm_get stC 2 (fun _=>rfl) V k 0 hk (by omega);have g1:=fm_get stC 2 (fun _=>rfl) V k 1 hk (by omega);rw[hx2,Nat.add_zero]at g0;rw[hx2]at g1;exact⟨by rw[own_cell h (k*2) (by omega),g0];rfl,by rw[own_cell h (k*2+1) (by omega),g1];rfl⟩
section
variable {w0 wr w2 w3:World} {bb tb:Nat} {cs:Array Value} {sb sc n:Nat} {V:List (Value×Value)} {L T:List (List It)} {nT:Nat} {DT:DataW Unit}
theorem Trs.later(h:Trs w0 wr bb tb cs sb sc n V L T nT DT)(hb:Below wr.heap.size wr w2):Trs w0 w2 bb tb cs sb sc n V L T nT DT:=
 ⟨h.blk.below hb h.blk.lt,own_below h.rows hb,h.len,fun k x l a b=>own_below (h.items k x l a b) hb,fun k x l a b=>own_below (h.trans k x l a b) hb,h.apart,(Chg.of_below (X:=fun _=>False) hb).map h.tm id,h.below.trans (hb.mono h.below.size),h.small⟩
theorem Trs.put(h:Trs w0 wr bb tb cs sb sc n V L T nT DT){i:Nat}{iv tv:Value}{l:List It}(hx:V[i]?=some (iv,tv))(hl:T[i]?=some l)(hW:Below wr.heap.size wr w2){x:It}{A:Option Addr}{c:Nat}
  (r1:w3.ownsRow w0.heap.size 127 2 (.slice A (l.length+1) c) (l.length+1) (l.flatMap itC++itC x)) (r2:Keeps w0.heap.size [127] w2 w3) (r3:w2.grownBy w3 tv.ownBlock∧((Value.slice A (l.length+1) c).ownBlock=tv.ownBlock∨(Value.slice A (l.length+1) c).ownBlock=some w2.heap.size)) :
  Trs w0 (w3.setCell ⟨sb,i*2+1,none⟩ (.slice A (l.length+1) c)) bb tb cs sb sc n (V.set i (iv,.slice A (l.length+1) c)) L (T.set i (l++[x])) nT DT:=by
 have h2:=h.later hW;obtain⟨hi,-⟩:=sG.1 hx;have hlen:=h.len;obtain⟨sg,sn,hsb⟩:∃cur,Blk w2 sb 71 cur∧w0.heap.size≤sb:=by
  rcases h2.rows.2 with⟨hh,_⟩|⟨g',cap,cur,hh,hB,hgg,_⟩
  ·cases hh
  ·cases hh;exact⟨cur,hgg,hB⟩
 have hsb3:=r2.blk sn (.inr (by decide));have hc:Chg (·=sb) w3 (w3.setCell ⟨sb,i*2+1,none⟩ (.slice A (l.length+1) c)):=Chg.set (X:=(·=sb)) (Chg.refl _ w3) (p:=⟨sb,i*2+1,none⟩) (.inr rfl) _;have hg2:Chg (fun k=>tv.ownBlock=some k) w2 w3:=Chg.of_grown r3.1;have htv:=h2.trans i _ l hx hl;have hrow3:=r2.own h2.rows (.inr (by decide));refine⟨hc.blk (r2.blk h2.blk (.inr (by decide))) (Blk.ne_ h2.blk sn (by decide)),?_,⟨by simp[hlen],by simp[hlen],by simp[hlen]⟩,?_,?_,?_,hc.map (r2.map h2.tm) (fun e=>map_ne h2.tm sn e.symm),?_,h.small⟩
 ·have:=own_set hrow3 (i*2+1) (by omega) (.slice A (l.length+1) c)
  rw[stC_set V i iv tv _ hx]at this;exact this
 ·intro k y m hy hm
  have:∃y2,V[k]?=some (y.1,y2):=by
   by_cases hk:k=i
   ·subst hk
    rw[tG hi]at hy;cases hy
    exact⟨tv,hx⟩
   ·rw[uG (fun e=>hk e.symm)]at hy
    exact⟨y.2,hy⟩
  obtain⟨y2,hy2⟩:=this;have h3:=r2.own (h2.items k _ m hy2 hm) (.inr (by decide));exact hc.own h3 (own_neb h3 hsb3 (by decide))
 ·intro k y m hy hm
  by_cases hk:k=i
  ·subst hk
   rw[tG hi]at hy;rw[tG (by omega)]at hm;cases hy
   cases hm
   have h3:w3.ownsRow w0.heap.size 127 2 (.slice A (l.length+1) c) (l++[x]).length ((l++[x]).flatMap itC):=by simpa using r1
   exact hc.own h3 (own_neb h3 hsb3 (by decide))
  ·rw[uG (fun e=>hk e.symm)]at hy hm
   have h0:=h2.trans k y m hy hm;have h3:=hg2.own h0 (fun b hb e=>h.apart k i y _ hy hx hk b hb e);exact hc.own h3 (own_neb h3 hsb3 (by decide))
 ·intro a b y z hy hz hab k hk hk2
  have key:∀(m:Nat) (y:Value×Value),V[m]?=some y→m≠i→∀k,(Value.slice A (l.length+1) c).ownBlock=some k→y.2.ownBlock≠some k:=fun m y hy hm k h1 h4=>by
   rcases r3.2 with e|e
   ·rw[e]at h1
    exact h.apart i m _ y hx hy (fun e=>hm e.symm) k h1 h4
   ·rw[e]at h1
    cases h1
    have hm2:=(sG.1 hy).1;have:=(own_lt (h2.trans m y _ hy (eG (by omega))) _ h4).1;omega
  by_cases ha:a=i
  ·subst ha
   rw[tG hi]at hy;cases hy
   rw[uG hab]at hz;exact key b z hz (fun e=>hab e.symm) k hk hk2
  ·rw[uG (fun e=>ha e.symm)]at hy
   by_cases hb:b=i
   ·subst hb
    rw[tG hi]at hz;cases hz
    exact key a y hy ha k hk2 hk
   ·rw[uG (fun e=>hb e.symm)]at hz
    exact h.apart a b y z hy hz hab k hk hk2
 ·exact(h2.below.trans (r2.below h2.below.size)).setCell (p:=⟨sb,i*2+1,none⟩) hsb _
theorem Trs.aut(h:Trs w0 wr bb tb cs sb sc n V L T nT DT)(hi:∀l∈L,l.length≤100000)(ht:∀l∈T,l.length≤100000):Aut wr (.slice (some ⟨sb,0,none⟩) n sc) V L T:=by have hlen:=h.len;obtain rfl:V.length=n:=hlen.1;have hsb:sb<wr.heap.size:=(own_lt h.rows sb rfl).1;refine⟨⟨_,sc,rfl,(row_capQ h.rows).1,fun k x hx=>⟨sb,0,rfl,hsb,?_⟩⟩,hlen.2,fun k x l hx hl=>Prs.own (h.items k x l hx hl) (by have:=hi l (mG hl);omega),fun k x l hx hl=>Prs.own (h.trans k x l hx hl) (by have:=ht l (mG hl);omega),h.small⟩;have:=st_cells h.rows hx;simpa using this
end
def TSp(T E:List (List It))(n i s:Nat):Prop:=T.length=n∧E.length=n∧∀k,k<n→T.getD k []=if k<i then E.getD k [] else if k=i then lows (E.getD k []) s else[]
theorem getD_rising{E:List (List It)}{a b:Nat}(h:∀t∈E,Rising t a b)(k:Nat):Rising (E.getD k []) a b:=by
 rw[dG];cases hq:E[k]? with
 | none=>exact⟨List.Pairwise.nil,fun x hx=>by cases hx⟩
 | some t=>exact h t (mG hq)
theorem TSp.start{E:List (List It)}{N:Nat}(h:∀t∈E,Rising t 1 N):TSp (List.replicate E.length []) E E.length 0 1:=by refine⟨by simp,rfl,fun k hk=>?_⟩;rw[if_neg (by omega),lows_none (getD_rising h k)];rw[dG,List.getElem?_replicate];split<;>split<;>rfl
theorem TSp.skip{T E:List (List It)}{n i s N:Nat}(h:TSp T E n i s)(hr:∀t∈E,Rising t 1 N)(he:edgeOf E i s=none):TSp T E n i (s+1):=by
 obtain⟨h1,h2,h3⟩:=h;refine⟨h1,h2,fun k hk=>?_⟩;rw[h3 k hk];by_cases hki:k=i
 ·subst hki
  have hf:(E.getD k []).find? (fun x=>x.1==s)=none:=by
   unfold edgeOf at he;cases hq:(E.getD k []).find? (fun x=>x.1==s) with
   | none=>rfl
   | some x=>rw[hq]at he;cases he
  rw[lows_next (getD_rising hr k) s,hf]
 ·simp[hki]
theorem TSp.add{T E:List (List It)}{n i s j N:Nat}(h:TSp T E n i s)(hr:∀t∈E,Rising t 1 N)(hi:i<n)(he:edgeOf E i s=some j):TSp (T.set i (T.getD i []++[(s,j)])) E n i (s+1):=by
 obtain⟨h1,h2,h3⟩:=h;refine⟨by simpa using h1,h2,fun k hk=>?_⟩;by_cases hki:k=i
 ·subst hki
  have e1:(T.set k (T.getD k []++[(s,j)])).getD k []=T.getD k []++[(s,j)]:=by rw[dG,tG (by omega)];rfl
  rw[e1,h3 k hk,if_neg (by omega),if_pos rfl,if_neg (by omega),if_pos rfl,lows_next (getD_rising hr k) s];unfold edgeOf at he;cases hq:(E.getD k []).find? (fun x=>x.1==s) with
  | none=>rw[hq]at he;cases he
  | some x=>rw[hq]at he;have hx:=List.find?_some hq;simp only[beq_iff_eq]at hx;simp only[Option.map_some,Option.some.injEq]at he;obtain⟨a,b⟩:=x;simp only at hx he;subst hx;subst he;rfl
 ·rw[dG,uG (fun e=>hki e.symm),←dG,h3 k hk]
  simp[hki]
theorem TSp.turn{T E:List (List It)}{n i N:Nat}(h:TSp T E n i N)(hr:∀t∈E,Rising t 1 N):TSp T E n (i+1) 1:=by
 obtain⟨h1,h2,h3⟩:=h;refine⟨h1,h2,fun k hk=>?_⟩;rw[h3 k hk];by_cases hk1:k<i
 ·rw[if_pos hk1,if_pos (by omega)]
 ·rw[if_neg hk1]
  by_cases hki:k=i
  ·subst hki
   rw[if_pos rfl,if_pos (by omega),lows_all (getD_rising hr k)]
  ·rw[if_neg hki,if_neg (by omega)]
   split
   ·rw[lows_none (getD_rising hr k)]
   ·rfl
theorem TSp.done{T E:List (List It)}{n s:Nat}(h:TSp T E n n s):T=E:=by
 obtain⟨h1,h2,h3⟩:=h;apply List.ext_getElem?;intro k;by_cases hk:k<n
 ·have:=h3 k hk
  rw[if_pos hk,dG,dG,eG (by omega),eG (by omega)]at this;rw[eG (by omega),eG (by omega)];exact congrArg some this
 ·rw[nG (by omega),nG (by omega)]
theorem Bst.trs{w0 wr:World}{bb mb tb gr0 c0 sb sc:Nat}{v:Value}{g:Gz}{bg:List (List It)}{V:List (Value×Value)}{L:List (List It)}{D:DataW Unit}{nT:Nat}{DT:DataW Unit}{m:Nat→Nat→Option Nat}(h:Bst w0 wr bb mb tb gr0 c0 v (.slice (some ⟨sb,0,none⟩) V.length sc) g bg V L D nT DT m):Trs w0 wr bb tb (v.cells++#[.slice (some ⟨gr0,0,none⟩) (g.top+1) c0,.slice (some ⟨sb,0,none⟩) V.length sc,.map (some mb),.map (some tb)]) sb sc V.length V L (List.replicate V.length []) nT DT:=by
 refine⟨h.bld.blk,h.bld.rows,⟨rfl,h.bld.len,by simp⟩,h.bld.items,fun k x l hx hl=>?_,fun i j x y hx hy hij k hk=>?_,h.tm,h.bld.below,h.bld.small⟩
 ·have h1:=h.bld.nil_ x (mG hx)
  have h2:=List.eq_of_mem_replicate (mG hl);subst h2;rw[h1];exact⟨rfl,.inl ⟨rfl,rfl⟩⟩
 ·rw[h.bld.nil_ x (mG hx)]at hk
  cases hk
end Go.Proofs.YthaacmablcpdfaaGreatDoor
