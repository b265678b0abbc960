/- Queues. Where the making of steps stands. What steps makes. -/
import Derived.Test.YthaacmablcpdfaaGreatDoorZav
import Derived.ArgAppend
import Derived.Deep.DeepCutAuto
import Derived.Test.YthaacmablcpdfaaGreatDoorNm
namespace Go.Proofs.YthaacmablcpdfaaGreatDoor
open Go.RowKit
set_option linter.unusedVariables false
set_option maxRecDepth 100000
def OwnQ(w:World)(base:Nat)(e:TypeId)(size:Nat)(v:Value)(n:Nat)(xs:List Value):Prop:=
 xs.length=n*size∧((v=.slice none 0 0∧n=0)∨∃g off cap cur,v=.slice (some ⟨g,off,none⟩) n cap∧base≤g∧Blk w g e cur∧n≤cap∧cap≤maxLen∧off+cap*size≤cur.size∧∀j u,xs[j]?=some u→cur[off+j]?=some u)
theorem OwnQ.of{w:World}{base:Nat}{e:TypeId}{size:Nat}{v:Value}{n:Nat}{xs:List Value}(h:w.ownsRow base e size v n xs):OwnQ w base e size v n xs:=by
 refine⟨h.1,?_⟩;rcases h.2 with hn|⟨g,cap,cur,rfl,hb,hg,h1,h2,h3,h4⟩
 ·exact .inl hn
 ·refine .inr ⟨g,0,cap,cur,rfl,hb,hg,h1,h2,by omega,fun j u hu=>?_⟩
  rw[←h4,List.getElem?_take]at hu;split at hu
  ·simpa using hu
  ·cases hu
theorem OwnQ.shape{w:World}{base:Nat}{e:TypeId}{size:Nat}{v:Value}{n:Nat}{xs:List Value}(h:OwnQ w base e size v n xs):∃A c,v=.slice A n c:=by
 rcases h.2 with⟨rfl,rfl⟩|⟨g,off,cap,cur,rfl,_⟩
 ·exact⟨_,_,rfl⟩
 ·exact⟨_,_,rfl⟩
theorem OwnQ.chg{X:Nat→Prop}{w w':World}{base:Nat}{e:TypeId}{size:Nat}{v:Value}{n:Nat}{xs:List Value}(h:OwnQ w base e size v n xs)(hc:∀g cur,Blk w g e cur→v.ownBlock=some g→Blk w' g e cur):OwnQ w' base e size v n xs:=by
 refine⟨h.1,?_⟩;rcases h.2 with hn|⟨g,off,cap,cur,rfl,hB,hgg,hr⟩
 ·exact .inl hn
 ·exact .inr ⟨g,off,cap,cur,rfl,hB,hc g cur hgg rfl,hr⟩
theorem OwnQ.below{w w':World}{base:Nat}{e:TypeId}{size:Nat}{v:Value}{n:Nat}{xs:List Value}(h:OwnQ w base e size v n xs)(hb:Below w.heap.size w w'):OwnQ w' base e size v n xs:=
 h.chg (X:=fun _=>True) fun g cur hg _=>Blk.below hg hb (Blk.lt hg)
theorem OwnQ.keeps{w w':World}{B base:Nat}{T:List TypeId}{e:TypeId}{size:Nat}{v:Value}{n:Nat}{xs:List Value}(h:OwnQ w base e size v n xs)(hk:Keeps B T w w')(ht:e ∉ T):OwnQ w' base e size v n xs:=
 h.chg (X:=fun _=>True) fun g cur hg _=>hk.blk hg (.inr ht)
theorem OwnQ.at_{w:World}{base:Nat}{e:TypeId}{size:Nat}{n:Nat}{xs:List Value}{A:Option Addr}{c:Nat}(h:OwnQ w base e size (.slice A n c) n xs)(hp:0<n):∃g off,A=some ⟨g,off,none⟩∧g<w.heap.size∧n≤c∧∀j u,xs[j]?=some u→w.cell? ⟨g,off+j,none⟩=some u:=by
 rcases h.2 with⟨hh,rfl⟩|⟨g,off,cap,cur,hh,hB,hgg,h1,h2,h3,h4⟩
 ·omega
 ·cases hh
  exact⟨g,off,rfl,Blk.lt hgg,h1,fun j u hu=>(hgg.cell _).trans (h4 j u hu)⟩
theorem OwnQ.tail{w:World}{base:Nat}{e:TypeId}{n:Nat}{x:Value}{xs:List Value}{g off c off':Nat}(h:OwnQ w base e 1 (.slice (some ⟨g,off,none⟩) (n+1) c) (n+1) (x::xs))(ho:off'=off+1∨(c=1∧off'=off)):OwnQ w base e 1 (.slice (some ⟨g,off',none⟩) n (c-1)) n xs:=by
 have hl:=h.1;refine⟨by simpa using hl,?_⟩;rcases h.2 with⟨hh,_⟩|⟨g',off0,cap,cur,hh,hB,hgg,h1,h2,h3,h4⟩
 ·cases hh
 ·cases hh
  rcases ho with rfl|⟨rfl,rfl⟩
  ·refine .inr ⟨g,off+1,c-1,cur,rfl,hB,hgg,by omega,by omega,by omega,fun j u hu=>?_⟩
   have:=h4 (j+1) u (by simpa using hu);rw[show off+1+j=off+(j+1) by omega];exact this
  ·obtain rfl:n=0:=by omega
   exact .inr ⟨g,off',1-1,cur,rfl,hB,hgg,by omega,by omega,by omega,fun j u hu=>by have h1:=(sG.1 hu).1;rw[List.length_cons]at hl;omega⟩
theorem setCells_blk{w:World}{g:Nat}{e:TypeId}:∀(vs:List Value) (o:Nat) (w:World) (cur:Array Value),Blk w g e cur→o+vs.length≤cur.size→∃cur',Blk (w.setCells g o vs) g e cur'∧cur'.size=cur.size∧(∀j u,vs[j]?=some u→cur'[o+j]?=some u)∧∀i,i<o→cur'[i]?=cur[i]?
 | [],o,w,cur,h,hl=>⟨cur,h,rfl,fun j u hu=>by simp at hu,fun i hi=>rfl⟩
 | v::r,o,w,cur,h,hl=>by
  simp only[List.length_cons]at hl;obtain⟨cur',h1,h2,h3,h4⟩:=setCells_blk (w:=w) r (o+1) (w.setCell ⟨g,o,none⟩ v) _ (h.set_ o v) (by simp;omega);refine⟨cur',h1,by simpa using h2,fun j u hu=>?_,fun i hi=>?_⟩
  ·cases j with
   | zero=>rw[h4 (o+0) (by omega)];simp at hu;subst hu;rw[Array.getElem?_setIfInBounds];simp;omega
   | succ j=>rw[show o+(j+1)=o+1+j by omega];exact h3 j u (by simpa using hu)
  ·rw[h4 i (by omega),Array.getElem?_setIfInBounds,if_neg (by omega)]
theorem setCells_keeps{B:Nat}{T:List TypeId}{g:Nat}{e:TypeId}(hB:B≤g)(he:e∈T):∀(vs:List Value) (o:Nat) (w:World) (cur:Array Value),Blk w g e cur→Keeps B T w (w.setCells g o vs)
 | [],o,w,cur,h=>Keeps.refl _ _ _
 | v::r,o,w,cur,h=>((Keeps.refl B T w).setBlk h hB he o v).trans (setCells_keeps hB he r (o+1) _ _ (h.set_ o v))
theorem setCells_grown{g:Nat}{e:TypeId}:∀(vs:List Value) (o:Nat) (w:World),w.grownBy (w.setCells g o vs) (some g)
 | [],o,w=>World.grownBy.refl w _
 | v::r,o,w=>by
  have h:=setCells_grown (g:=g) (e:=e) r (o+1) (w.setCell ⟨g,o,none⟩ v);refine⟨h.os,h.tape,h.output,?_,fun k hk hne=>?_⟩
  ·have:=h.size
   rw[show (w.setCell ⟨g,o,none⟩ v).heap.size=w.heap.size by simp[World.setCell]]at this;exact this
  exact(h.block k (by simpa [World.setCell] using hk) hne).trans (Below.heap_setCell _ _ _ _ (by rintro rfl;exact hne rfl))
theorem run_appQ{P:Program}{w:World}{t e ty:TypeId}{size bytes:Nat}(E:El P t e size bytes){base n m N:Nat}{v src:Value}{xs news:List Value}
  (hown:OwnQ w base e size v n xs) (hsrc:SrcOK w src m size news) (hm:0<m) (hN:n+m=N) (h63:N≤maxLen) (hbytes:N*bytes≤140737488355328) (hbase:base≤w.heap.size) :
  ∃A c w',(Builtin.append_ #[t,t] ty #[v,src]).run P w=.ok (.slice A N c) w'∧OwnQ w' base e size (.slice A N c) N (xs++news)∧Keeps base [e] w w'∧w.grownBy w' v.ownBlock:=by
 rcases hown.2 with⟨rfl,rfl⟩|⟨g,off,cap,cur,rfl,hB,hgg,h1,h2,h3,h4⟩
 ·have hx:xs=[]:=List.eq_nil_of_length_eq_zero (by simpa using hown.1)
  subst hx;obtain⟨A,c,w',a1,a2,a3,a4⟩:=run_app (ty:=ty) E (World.ownsRow_nil w base e size) hsrc hN h63 hbytes hbase;exact⟨A,c,w',a1,OwnQ.of a2,a3,a4.1⟩
 ·subst hN
  obtain⟨ht,⟨i,z,hi,hz,hs1,hs2,hz2⟩,hp⟩:=E;obtain⟨ho,hsrc⟩:=hsrc;rcases hsrc with⟨rfl,rfl,rfl⟩|⟨ad,c,rfl,hl,hc⟩
  ·omega
  ·have hxl:=hown.1
   have hlen:(xs++news).length=(n+m)*size:=by rw[lnA,hxl,hl,Nat.add_mul]
   by_cases hroom:n+m≤cap
   ·have hfit:n*size+news.length≤cap*size:=by rw[hl,←Nat.add_mul];exact Nat.mul_le_mul_right _ hroom
    have hr:=run_append_room_cells (P:=P) w t ty e i ht hi g off n cap ad m c news (by rw[hs1];exact hl) hc ho hroom (fun j hj=>by rw[hgg.cell,hs1,Array.getElem?_eq_getElem (by omega)];rfl) (fun j hj=>hgg.frozen _)
    rw[hs1]at hr;obtain⟨cur',b1,b2,b3,b4⟩:=setCells_blk (w:=w) news (off+n*size) w cur hgg (by omega);refine⟨_,_,_,hr,⟨hlen,.inr ⟨g,off,cap,cur',rfl,hB,b1,hroom,h2,by omega,fun j u hu=>?_⟩⟩,setCells_keeps hB (by simp) _ _ _ _ hgg,setCells_grown (e:=e) _ _ _⟩;by_cases hj:j<xs.length
    ·rw[gL hj]at hu
     rw[b4 _ (by omega)];exact h4 j u hu
    ·rw[List.getElem?_append_right (by omega)]at hu
     have:=b3 _ u hu;rw[show off+n*size+(j-xs.length)=off+j by omega]at this;exact this
   ·obtain⟨v',w',hr,r1,r2⟩:=run_append_arg_grows (P:=P) w t ty e i z size bytes ht hi hz hs1 hs2 hz2 hp ⟨g,off,none⟩ n cap xs hxl (fun j u hu=>by
     have:(⟨g,off,none⟩:Addr).add j=⟨g,off+j,none⟩:=by unfold Addr.add;split<;>simp_all
     rw[this,hgg.cell];exact h4 j u hu) ad m c news hl hc (by omega) h63 hbytes
    obtain⟨A',c',rfl⟩:=own_shape r1;exact⟨_,_,w',hr,OwnQ.of (own_base r1 hbase),(Keeps.refl base [e] w).grown r2 (fun k hk=>by cases hk),⟨r2.os,r2.tape,r2.output,r2.size,fun k hk _=>r2.block k hk (by simp)⟩⟩
theorem wp_appQ{P:Program}{w:World}{o:Oper}{a:Act}{K:Act→World→Prop}{Q:Exit→Act→World→Prop}{t e:TypeId}{size bytes:Nat}(E:El P t e size bytes)(s x:Operand)
  (ho:o.op=.call {callee:=.builtin .append,args:=#[s,x],argTypes:=#[t,t]}) {base n m N:Nat} {v src:Value} {xs news:List Value} (hs:a.eval s=v) (hx:a.eval x=src)
  (hown:OwnQ w base e size v n xs) (hsrc:SrcOK w src m size news) (hm:0<m) (hN:n+m=N) (h63:N≤maxLen) (hbytes:N*bytes≤140737488355328) (hbase:base≤w.heap.size)
  (h:∀A c w',OwnQ w' base e size (.slice A N c) N (xs++news)→Keeps base [e] w w'→w.grownBy w' v.ownBlock→K (a.put o.dst (.slice A N c)) w'):o.wp P a w K Q:=by
 obtain⟨A,c,w',hr,r1,r2,r3⟩:=run_appQ (P:=P) (ty:=o.type) E hown hsrc hm hN h63 hbytes hbase;unfold Oper.wp execOp;simp only[ho,resolve,invoke,builtin,Sem.run_bind,Sem.run_pure,Result.andThen_ok,List.map_toArray,List.map_cons,List.map_nil,hs,hx,hr];exact h A c w' r1 r2 r3
theorem wpList_appQ{P:Program}{w:World}{ops:Array Oper}{rest:List Oper}{o:Oper}{a:Act}{Q:Exit→Act→World→Prop}{t e:TypeId}{size bytes:Nat}(E:El P t e size bytes)(s x:Operand)(hgd:o.guard=none)
  (ho:o.op=.call {callee:=.builtin .append,args:=#[s,x],argTypes:=#[t,t]}) {base n m N:Nat} {v src:Value} {xs news:List Value} (hs:a.eval s=v) (hx:a.eval x=src)
  (hown:OwnQ w base e size v n xs) (hsrc:SrcOK w src m size news) (hm:0<m) (hN:n+m=N) (h63:N≤maxLen) (hbytes:N*bytes≤140737488355328) (hbase:base≤w.heap.size)
  (h:∀A c w',OwnQ w' base e size (.slice A N c) N (xs++news)→Keeps base [e] w w'→w.grownBy w' v.ownBlock→wpList P ops Q rest (a.put o.dst (.slice A N c)) w'):wpList P ops Q (o::rest) a w:=
 wpList_plain hgd fun _ hK=>wp_appQ E s x ho hs hx hown hsrc hm hN h63 hbytes hbase fun A c w' r1 r2 r3=>hK _ _ (h A c w' r1 r2 r3)
end Go.Proofs.YthaacmablcpdfaaGreatDoor
namespace Go.Proofs.YthaacmablcpdfaaGreatDoor
open Go.RowKit
open Go.Maps (IsMap)
set_option linter.unusedVariables false
set_option maxRecDepth 100000
theorem Gz.Fit.next_le{g:Gz}(h:g.Fit)(x:It):g.next x≤g.top:=by
 have hs:=h.start.2;have key:∀(l:List Nat) (d:Nat),(∀y∈l,y≤g.top)→l.getD d 0≤g.top:=fun l d hl=>by
  rw[dG];cases hq:l[d]? with
  | none=>exact zeL _
  | some y=>exact hl y (mG hq)
 unfold Gz.next Gz.right Gz.rule;split
 ·exact key _ _ (fun y hy=>by simp at hy;omega)
 ·refine key _ _ (fun y hy=>?_)
  rw[dG]at hy;cases hq:g.R[x.1]? with
  | none=>rw[hq]at hy;cases hy
  | some r=>rw[hq]at hy;exact(h.right r (mG hq) y hy).2
theorem Chg.map{X:Nat→Prop}{w w':World}{P:Program}{k:TypeId}{R:Value→Option (DataW Unit×List MemPlace)}{mb n:Nat}{D:DataW Unit}(hc:Chg X w w')(h:w.ownsMap P k R mb n D)(hx:¬X mb):w'.ownsMap P k R mb n D:=by obtain⟨es,clock,hb,rest⟩:=h;exact⟨es,clock,(hc.block mb (aG.1 hb).1 hx).trans hb,rest⟩
theorem map_ne{w:World}{P:Program}{k:TypeId}{R:Value→Option (DataW Unit×List MemPlace)}{mb n:Nat}{D:DataW Unit}(h:w.ownsMap P k R mb n D){b:Nat}{t:TypeId}{cs:Array Value}(hb:Blk w b t cs):b≠mb:=by rintro rfl;obtain⟨es,clock,hh,_⟩:=h;unfold Blk at hb;rw[hh]at hb;cases hb
theorem map_neo{w:World}{P:Program}{k:TypeId}{R:Value→Option (DataW Unit×List MemPlace)}{mb n:Nat}{D:DataW Unit}(h:w.ownsMap P k R mb n D){B:Nat}{e:TypeId}{size m:Nat}{v:Value}{xs:List Value}(ho:w.ownsRow B e size v m xs):∀b,v.ownBlock=some b→b≠mb:=by
 intro b hb;rcases ho.2 with⟨rfl,_⟩|⟨g,cap,cur,rfl,_,hgg,_⟩
 ·cases hb
 ·cases hb
  exact map_ne h hgg
theorem Keeps.map{B:Nat}{T:List TypeId}{w w':World}{P:Program}{k:TypeId}{R:Value→Option (DataW Unit×List MemPlace)}{mb n:Nat}{D:DataW Unit}(hc:Keeps B T w w')(h:w.ownsMap P k R mb n D):w'.ownsMap P k R mb n D:=by obtain⟨es,clock,hb,rest⟩:=h;exact⟨es,clock,(hc.block mb (aG.1 hb).1 (.inr fun cs t m hh=>by rw[hb]at hh;cases hh)).trans hb,rest⟩
theorem IFam.fresh(w:World){B n:Nat}(hB:B≤w.heap.size)(hn:n≤100000):IFam (w.alloc (.cells (Array.replicate n (.slice none 0 0)) 68)) B w.heap.size n n (List.replicate n (.slice none 0 0,[])):=by
 refine⟨⟨by simp,.inr ⟨w.heap.size,n,_,rfl,hB,Blk.new w _ _,leR _,by unfold maxLen;omega,by simp,by simp⟩⟩,fun k x hx=>?_,fun i j x y hx hy hij k hk=>?_⟩
 ·obtain⟨h1,rfl⟩:=sG.1 hx
  simp;exact⟨rfl,.inl ⟨rfl,rfl⟩⟩
 ·obtain⟨h1,rfl⟩:=sG.1 hx
  simp[Value.ownBlock]at hk
theorem IFam.turn{w W:World}{B g n c:Nat}{R:List (Value×List It)}(h:IFam w B g n c R){s:Nat}{x:Value×List It}(hx:R[s]?=some x){nv:Value}{l:List It}
  (hc:Chg (fun k=>x.1.ownBlock=some k) w W) (r1:W.ownsRow B 194 2 nv l.length (l.flatMap itC)) (hap:nv.ownBlock=x.1.ownBlock):IFam (W.setCell ⟨g,s,none⟩ nv) B g n c (R.set s (nv,l)):=by
 obtain⟨hs,hx2⟩:=sG.1 hx;have hlen:=h.len;obtain⟨cur,hcur⟩:=h.blk;have hgx:x.1.ownBlock≠some g:=own_blk_ne (h.own s x hx) hcur (by decide);have hcg:Blk W g 68 cur:=hc.blk hcur hgx;have hcs:Chg (·=g) W (W.setCell ⟨g,s,none⟩ nv):=Chg.set (X:=(·=g)) (Chg.refl _ W) (p:=⟨g,s,none⟩) (.inr rfl) _;have hrow:=hc.own h.row (fun k hk e=>hgx (by cases hk;exact e));refine⟨?_,?_,?_⟩
 ·have:=own_set hrow s (by omega) nv
  rw[List.map_set];exact this
 ·intro k y hy
  by_cases hk:k=s
  ·subst hk
   rw[tG hs]at hy;cases hy
   exact hcs.own r1 (own_neb r1 hcg (by decide))
  ·rw[uG (fun e=>hk e.symm)]at hy
   have hy3:=hc.own (h.own k y hy) (fun b hb he=>h.apart s k x y hx hy (fun e=>hk e.symm) b he hb);exact hcs.own hy3 (own_neb hy3 hcg (by decide))
 ·intro i j a b ha hb hij k hak hbk
  have key:∀(m:Nat) (y:Value×List It),R[m]?=some y→m≠s→∀k,nv.ownBlock=some k→y.1.ownBlock≠some k:=fun m y hy hm k h1 h2=>by rw[hap]at h1;exact h.apart s m x y hx hy (fun e=>hm e.symm) k h1 h2
  by_cases hi:i=s
  ·subst hi
   rw[tG hs]at ha;cases ha
   rw[uG hij]at hb;exact key j b hb (fun e=>hij e.symm) k hak hbk
  ·rw[uG (fun e=>hi e.symm)]at ha
   by_cases hj:j=s
   ·subst hj
    rw[tG hs]at hb;cases hb
    exact key i a ha hi k hbk hak
   ·rw[uG (fun e=>hj e.symm)]at hb
    exact h.apart i j a b ha hb hij k hak hbk
structure Stp(w wr:World)(bb pb rb mb gr c N n m:Nat)(R:List (Value×List It))(M:List Nat)(D:DataW Unit):Prop where
 below:Below w.heap.size w wr
 p:Blk wr pb 175 #[.pointer (some ⟨bb,0,none⟩)]
 r:Blk wr rb 177 #[.slice (some ⟨gr,0,none⟩) N c]
 fam:IFam wr w.heap.size gr N c R
 map:BMap wr mb n D
 met:MetD D M
 short:Short m (R.map (·.2))
 lo:w.heap.size≤mb
theorem Stp.later{w wr w2:World}{bb pb rb mb gr c N n m:Nat}{R:List (Value×List It)}{M:List Nat}{D:DataW Unit}(h:Stp w wr bb pb rb mb gr c N n m R M D)(hb:Below wr.heap.size wr w2):Stp w w2 bb pb rb mb gr c N n m R M D:=
 ⟨h.below.trans (hb.mono h.below.size),h.p.below hb h.p.lt,h.r.below hb h.r.lt,h.fam.later hb,(Chg.of_below (X:=fun _=>False) hb).map h.map id,h.met,h.short,h.lo⟩
theorem Stp.more{w wr:World}{bb pb rb mb gr c N n m m2:Nat}{R:List (Value×List It)}{M:List Nat}{D:DataW Unit}(h:Stp w wr bb pb rb mb gr c N n m R M D)(hm:m≤m2):Stp w wr bb pb rb mb gr c N n m2 R M D:=
 ⟨h.below,h.p,h.r,h.fam,h.map,h.met,fun l hl=>leT (h.short l hl) hm,h.lo⟩
theorem Stp.moved{w wr w2:World}{bb pb rb mb gr c N n m m2:Nat}{R R2:List (Value×List It)}{M:List Nat}{D:DataW Unit}(h:Stp w wr bb pb rb mb gr c N n m R M D)(hf:IFam w2 w.heap.size gr N c R2)(hc:Chg (IX gr R) wr w2)(hs:Short m2 (R2.map (·.2))):Stp w w2 bb pb rb mb gr c N n m2 R2 M D:=by
 obtain⟨cur,hcur⟩:=h.fam.blk;have hgr:=own_lt h.fam.row gr rfl;have hb:∀{b:Nat} {t:TypeId} {cs:Array Value},Blk wr b t cs→t≠194→t≠68→Blk w2 b t cs:=fun hb h1 h3=>hc.blk hb (fun e=>by
  rcases e with e|⟨i,x,hx,e⟩
  ·exact Blk.ne_ hb hcur h3 e
  ·exact own_blk_ne (h.fam.own i x hx) hb (Ne.symm h1) e)
 refine⟨h.below.trans (hc.below h.below.size (fun k hk e=>?_)),hb h.p (by decide) (by decide),hb h.r (by decide) (by decide),hf,hc.map h.map (fun e=>?_),h.met,hs,h.lo⟩
 ·rcases e with e|⟨i,x,hx,e⟩
  ·omega
  ·have:=(own_lt (h.fam.own i x hx) k e).2;omega
 ·rcases e with e|⟨i,x,hx,e⟩
  ·exact map_ne h.map hcur e.symm
  ·exact map_neo h.map (h.fam.own i x hx) _ e rfl
theorem Stp.mapped{w wr w2:World}{bb pb rb mb gr c N n m n2 s:Nat}{R:List (Value×List It)}{M:List Nat}{D:DataW Unit}(h:Stp w wr bb pb rb mb gr c N n m R M D)(hm:BMap w2 mb n2 (D.put (klN s) (.lit (.bool true))))(hg:wr.grownBy w2 (some mb)):Stp w w2 bb pb rb mb gr c N n2 m R (s::M) (D.put (klN s) (.lit (.bool true))):=by have hc:Chg (·=mb) wr w2:=Chg.of_map hg;obtain⟨cur,hcur⟩:=h.fam.blk;exact⟨h.below.trans (hc.below h.below.size (fun k hk e=>by have:=h.lo;omega)),hc.blk h.p (map_ne h.map h.p),hc.blk h.r (map_ne h.map h.r),h.fam.chg hc (map_ne h.map hcur) (fun k x hx b hb=>map_neo h.map (h.fam.own k x hx) b hb),hm,h.met.next h.map.isMap s,h.short,h.lo⟩
theorem Stp.turned{w wr W:World}{bb pb rb mb gr c N n m:Nat}{R R2:List (Value×List It)}{M:List Nat}{D:DataW Unit}(h:Stp w wr bb pb rb mb gr c N n m R M D){s:Nat}{x:Value×List It}(hx:R[s]?=some x){nv:Value}(hc:Chg (fun k=>x.1.ownBlock=some k) wr W)(hf:IFam (W.setCell ⟨gr,s,none⟩ nv) w.heap.size gr N c R2)(hs:Short m (R2.map (·.2))):Stp w (W.setCell ⟨gr,s,none⟩ nv) bb pb rb mb gr c N n m R2 M D:=by
 obtain⟨cur,hcur⟩:=h.fam.blk;have ho:=h.fam.own s x hx;have hgr:=own_lt h.fam.row gr rfl;have h2:Chg (fun k=>x.1.ownBlock=some k∨k=gr) wr (W.setCell ⟨gr,s,none⟩ nv):=(hc.mono fun i hi=>.inl hi).set (p:=⟨gr,s,none⟩) (.inr (.inr rfl)) _;have hb:∀{b:Nat} {t:TypeId} {cs:Array Value},Blk wr b t cs→t≠194→t≠68→Blk (W.setCell ⟨gr,s,none⟩ nv) b t cs:=fun hb h1 h3=>h2.blk hb (fun e=>by
  rcases e with e|e
  ·exact own_blk_ne ho hb (Ne.symm h1) e
  ·exact Blk.ne_ hb hcur h3 e)
 refine⟨h.below.trans (h2.below h.below.size (fun k hk e=>?_)),hb h.p (by decide) (by decide),hb h.r (by decide) (by decide),hf,h2.map h.map (fun e=>?_),h.met,hs,h.lo⟩
 ·rcases e with e|e
  ·have:=(own_lt ho k e).2;omega
  ·omega
 ·rcases e with e|e
  ·exact map_neo h.map ho _ e rfl
  ·exact map_ne h.map hcur e.symm
theorem Stp.ordered{w wr W:World}{bb pb rb mb gr c N n m:Nat}{R:List (Value×List It)}{M:List Nat}{D:DataW Unit}(h:Stp w wr bb pb rb mb gr c N n m R M D){s:Nat}{xv:Value}{xl:List It}(hx:R[s]?=some (xv,xl)){nv:Value}{l:List It}(hc:Chg (fun k=>xv.ownBlock=some k) wr W)(r1:W.ownsRow w.heap.size 194 2 nv l.length (l.flatMap itC))(hap:nv.ownBlock=xv.ownBlock)(hs:Short m ((R.map (·.2)).set s l)):Stp w (W.setCell ⟨gr,s,none⟩ nv) bb pb rb mb gr c N n m (R.set s (nv,l)) M D:=
 h.turned hx hc (h.fam.turn hx hc r1 hap) (by rw[List.map_set];exact hs)
end Go.Proofs.YthaacmablcpdfaaGreatDoor
namespace Go.Proofs.YthaacmablcpdfaaGreatDoor
open Go.RowKit
set_option linter.unusedVariables false
set_option maxRecDepth 100000
theorem row_capQ{w:World}{B n g c:Nat}{e:TypeId}{s:Nat}{xs:List Value}(h:w.ownsRow B e s (.slice (some ⟨g,0,none⟩) n c) n xs):n≤c∧c≤9223372036854775807:=by
 rcases own_form h with⟨h1,_⟩|⟨b,c2,h1,_,_,h2,h3,_⟩
 ·cases h1
 ·cases h1
  unfold maxLen at h3;exact⟨h2,by omega⟩
theorem foldl_take{α β:Type}(f:β→α→β)(l:List α)(b:β)(k:Nat)(x:α)(hx:l[k]?=some x):(l.take (k+1)).foldl f b=f ((l.take k).foldl f b) x:=by rw[List.take_add_one,hx,List.foldl_append];rfl
theorem short_at{m:Nat}{R:List (Value×List It)}(h:Short m (R.map (·.2))){B:Nat}(hm:m≤B):∀(j:Nat) (x:Value×List It),R[j]?=some x→x.2.length≤B:=fun j x hx=>by have:=h x.2 (List.mem_map.2 ⟨x,mG hx,rfl⟩);omega
theorem stepA_non(g:Gz)(bg:List (List It))(R:List (List It))(M:List Nat)(x:It)(s:Nat)(hs:g.next x=s)(h:s∈M∨g.non s=false):g.stepA bg (R,M) x=(moveI g R x,M):=by unfold Gz.stepA;simp only[hs];rw[if_pos h]
theorem stepA_yes(g:Gz)(bg:List (List It))(R:List (List It))(M:List Nat)(x:It)(s:Nat)(hs:g.next x=s)(h1:s ∉ M)(h2:g.non s=true):g.stepA bg (R,M) x=((bg.getD s []).foldl (moveI g) (moveI g R x),s::M):=by unfold Gz.stepA;simp only[hs];rw[if_neg (by simp[h1,h2])]
theorem move_all{P:It→Prop}(g:Gz){R:List (List It)}(h:∀r∈R,∀y∈r,P y)(x:It)(hx:P (x.1,x.2+1)):∀r∈moveI g R x,∀y∈r,P y:=by
 unfold moveI;split
 ·exact h
 ·intro r hr
  obtain⟨i,hi⟩:=List.mem_iff_getElem?.1 hr;unfold addI at hi;rw[List.getElem?_modify]at hi;cases hq:R[i]? with
  | none=>rw[hq]at hi;cases hi
  | some r0=>
   rw[hq]at hi;have h0:=h r0 (mG hq);simp only[Option.map_eq_map,Option.map_some,Option.some.injEq]at hi;subst hi;split
   ·intro y hy
    rcases mA.1 hy with h1|h1
    ·exact h0 y h1
    ·rw[mS.1 h1];exact hx
   ·exact h0
theorem moves_all{P:It→Prop}(g:Gz):∀(l:List It) {R:List (List It)} (_:∀r∈R,∀y∈r,P y) (_:∀x∈l,P (x.1,x.2+1)),∀r∈l.foldl (moveI g) R,∀y∈r,P y
 | [],R,h,_=>h
 | x::l,R,h,hl=>moves_all g l (move_all g h x (hl x (by simp))) (fun y hy=>hl y (by simp[hy]))
theorem stepsA_all{P:It→Prop}(g:Gz)(bg:List (List It))(hb:∀r∈bg,∀x∈r,P (x.1,x.2+1)):∀(l:List It) (p:List (List It)×List Nat) (_:∀r∈p.1,∀y∈r,P y) (_:∀x∈l,P (x.1,x.2+1)),∀r∈(l.foldl (g.stepA bg) p).1,∀y∈r,P y
 | [],p,h,_=>h
 | x::l,p,h,hl=>by
  refine stepsA_all g bg hb l _ ?_ (fun y hy=>hl y (by simp[hy]));unfold Gz.stepA;simp only;split
  ·exact move_all g h x (hl x (by simp))
  ·refine moves_all g _ (move_all g h x (hl x (by simp))) ?_
   rw[dG];cases hq:bg[g.next x]? with
   | none=>intro y hy;simp at hy
   | some r=>exact hb r (mG hq)
theorem take_turn{α:Type}(f:α→α)(l:List α)(j:Nat)(x:α)(hx:l[j]?=some x):((l.take j).map f++l.drop j).set j (f x)=(l.take (j+1)).map f++l.drop (j+1):=by
 obtain⟨hj,rfl⟩:=sG.1 hx;apply List.ext_getElem?;intro i;have hl:((l.take j).map f).length=j:=by simp;omega
 have hl2:((l.take (j+1)).map f).length=j+1:=by simp;omega
 by_cases h1:i=j
 ·subst h1
  rw[tG (by simp;omega),gL (by omega),pG,List.getElem?_take_of_lt (by omega),hx];rfl
 ·rw[uG (fun e=>h1 e.symm)]
  by_cases h2:i<j
  ·rw[gL (by omega),gL (by omega),pG,pG,List.getElem?_take_of_lt h2,List.getElem?_take_of_lt (by omega)]
  ·rw[List.getElem?_append_right (by omega),List.getElem?_append_right (by omega),hl,hl2,List.getElem?_drop,List.getElem?_drop,show j+(i-j)=i by omega,show j+1+(i-(j+1))=i by omega]
structure Begs(w:World)(bb:Nat)(g:Gz)(bg:List (List It)):Prop where
 lies:∃B gr0 n0 c0 R0,w.cell? ⟨bb,4,none⟩=some (.slice (some ⟨gr0,0,none⟩) n0 c0)∧IFam w B gr0 n0 c0 R0∧R0.map (·.2)=bg∧n0=g.top+1
 short:∀l∈bg,l.length≤300∧∀x∈l,x.1≤g.R.length∧x.2≤9000
theorem Begs.at_{w:World}{bb:Nat}{g:Gz}{bg:List (List It)}(h:Begs w bb g bg){s:Nat}(hs:s≤g.top):∃gr0 c0 Ab cb,w.cell? ⟨bb,4,none⟩=some (.slice (some ⟨gr0,0,none⟩) (g.top+1) c0)∧w.cell? ⟨gr0,s,none⟩=some (.slice Ab (bg.getD s []).length cb)∧Prs w (.slice Ab (bg.getD s []).length cb) (bg.getD s [])∧g.top+1≤c0:=by
 obtain⟨⟨B,gr0,n0,c0,R0,h1,h2,h3,rfl⟩,h5⟩:=h;have hlen:=h2.len;obtain⟨x,hx⟩:∃x,R0[s]?=some x:=⟨_,eG (by omega)⟩
 have hbx:bg.getD s []=x.2:=by rw[←h3,dG,pG,hx];rfl
 have ho:=h2.own s x hx;obtain⟨Ab,cb,hv⟩:=own_shape ho;have hc:=own_cell h2.row s (by omega);rw[pG,hx]at hc;have hl:x.2.length≤300:=(h5 x.2 (by rw[←h3];exact List.mem_map.2 ⟨x,mG hx,rfl⟩)).1;refine⟨gr0,c0,Ab,cb,h1,?_,?_,(row_capQ h2.row).1⟩
 ·rw[hc,hbx];simp only[Option.map_some];rw[hv]
 ·rw[hbx,←hv];exact Prs.own ho (by omega)
theorem Prs.at_{w:World}{A:Option Addr}{n c:Nat}{l:List It}(h:Prs w (.slice A n c) l){k:Nat}{x:It}(hx:l[k]?=some x):∃b off,A=some ⟨b,off,none⟩∧b<w.heap.size∧w.cell? ⟨b,off+k*2,none⟩=some (.int .i64 x.1)∧w.cell? ⟨b,off+k*2+1,none⟩=some (.int .i64 x.2):=by
 obtain⟨⟨A',c',hv,hc⟩,-,-⟩:=h;cases hv
 exact hc k x hx
theorem Stp.move{w wr:World}{bb pb rb mb gr c N n m:Nat}{v:Value}{g:Gz}{R:List (Value×List It)}{M:List Nat}{D:DataW Unit}(h:Stp w wr bb pb rb mb gr c N n m R M D)(hbg:BG w bb v g)(hN:g.top<N){x:It}(hx:x.1≤g.R.length)(hd:x.2≤9000)(hm:m≤100000) :
  Calls Tryz.prog 148 #[.agg #[.int .i64 x.1,.int .i64 x.2],.pointer (some ⟨pb,0,none⟩),.pointer (some ⟨rb,0,none⟩)] wr fun e w'=>e=.returned (.tuple #[])∧∃R',Stp w w' bb pb rb mb gr c N n (m+1) R' M D∧R'.map (·.2)=moveI g (R.map (·.2)) x∧Chg (IX gr R) wr w':=by
 refine(move_any (hbg.later h.below) h.p h.r h.fam h.below.size hx (d:=x.2) (by omega) (by have:=hbg.gn.fit.next_le (x.1,x.2);omega) (short_at h.short hm)).mono ?_;rintro e w' ⟨he,R',h1,h2,h3⟩;exact⟨he,R',h.moved h1 h3 (by rw[h2];exact h.short.move g _),h2,h3⟩
set_option maxHeartbeats 8000000 in
theorem steps_any{w:World}{bb:Nat}{v kv:Value}{g:Gz}{bg:List (List It)}{l:List It}(hbg:BG w bb v g)(hbs:Begs w bb g bg)(hk:Prs w kv l)(hl:l.length≤300)(hli:∀x∈l,x.1≤g.R.length∧x.2≤9000) :
  Calls Tryz.prog 110 #[.pointer (some ⟨bb,0,none⟩),kv] w fun e w'=>∃gr c R,e=.returned (.slice (some ⟨gr,0,none⟩) (g.top+1) c)∧IFam w' w.heap.size gr (g.top+1) c R∧R.map (·.2)=g.stepsI bg l∧Below w.heap.size w w':=by
 have hfit:=hbg.gn.fit;have hnn:=hfit.nn;have hnt:=hfit.nt;obtain⟨N,hN⟩:∃N,N=g.top+1:=⟨_,rfl⟩
 have hN1:N≤1000:=by unfold Gz.top at hN;omega
 have htop:g.top≤1000:=by omega
 have hi1:IntKind.i64.wrap ((g.top:Int)+1)=(g.top:Int)+1:=by rw[IntKind.wrap_i64];omega
 have hmk:=fun y=>make_of (P:=Tryz.prog) (t:=177) (e:=68) (z:=.slice none 0 0) (bytes:=24) Tryz.underlying177 (by kernel_rfl) rfl (l:=((g.top:Nat):Int)+1) (n:=N) (by omega) (by omega) (by omega) y
 have hmp:∀y:World,(Instr.makeMap 222 none).run Tryz.prog y=.ok (.map (some y.heap.size)) (y.alloc (.map #[] 0)):=fun y=>by kernel_rfl
 have HT:=Hd (fun y (hy:Below w.heap.size w y)=>topN_any (hbg.gn.later hy));have HNX:=Hd (fun y (hy:Below w.heap.size w y) (x:It) (hx:x.1≤g.R.length) (hd:x.2≤9000)=>next_of (hbg.later hy) hx (d:=x.2) (by omega));have HNO:=Hd (fun y (hy:Below w.heap.size w y) (s:Nat)=>nonN_any (hbg.gn.later hy) s);have HBG:=Hd hbg;have HBS:=Hd hbs;have HLI:=Hd hli;have HFIT:=Hd hfit;obtain⟨AT,cT,AN,cN,AR,cR,rfl,hc,hcR⟩:=hbg.gn.open_;have HG0:Hid (∀y,Below w.heap.size w y→(y.cell? ⟨bb,0,none⟩=some (.slice AT g.nt cT)∧y.cell? ⟨bb,1,none⟩=some (.slice AN g.nn cN)∧y.cell? ⟨bb,2,none⟩=some (.slice AR g.R.length cR)∧y.cell? ⟨bb,3,none⟩=some (.int .i64 g.s))):=Hd (fun y hy=>by have h:=hbg.later hy;exact⟨h.cell 0 (by omega),h.cell 1 (by omega),h.cell 2 (by omega),h.cell 3 (by omega)⟩)
 obtain⟨Ak,ck,rfl⟩:∃A c,kv=.slice A l.length c:=by obtain⟨⟨A,c,hv,_⟩,_,_⟩:=hk;exact⟨A,c,hv⟩
 have HK:=Hd hk;have HB0:=Hd (below_alloc w (.cells #[.pointer (some ⟨bb,0,none⟩)] 175));obtain⟨y0,y1,y2,y3⟩:=HG0.out _ HB0.out;have HP:=Hd (Blk.new w 175 #[.pointer (some ⟨bb,0,none⟩)]);have hbb:bb<w.heap.size:=World.block_lt_of_cell? w _ (hbg.cell 0 (by omega));have HSI:Hid (g.stepsI bg l=((l.foldl (g.stepA bg) (List.replicate N [],[])).1).map orderL):=Hd (by unfold Gz.stepsI;rw[hN]);clear hbg hbs hli hk hc hfit;rw[←hN];rw[show g.stepsI bg l=_ from HSI.out];have HN:=Hd hN;clear hN hnn hnt;generalize hll:l.length=ll at *;have HLL:=Hd hll;clear hll;go_enter Tryz.func110,Tryz.ntmps110
 go_wp2_with (first
  | (
    go_at_call 38;refine(HT.out _ HB0.out).mono ?_;rintro e w2 ⟨rfl,hb2⟩
    have HB2:=Hd (HB0.out.trans (hb2.mono HB0.out.size));have HP2:=Hd (Blk.below HP.out hb2 HP.out.lt);clear hb2))
 have HS0:Hid (Stp w (((w2.alloc (.cells (Array.replicate N (.slice none 0 0)) 68)).alloc (.cells #[.slice (some ⟨w2.heap.size,0,none⟩) N N] 177)).alloc (.map #[] 0)) bb w.heap.size (w2.heap.size+1) (w2.heap.size+1+1) w2.heap.size N N 0 0 (List.replicate N (.slice none 0 0,[])) [] (.map [])):=Hd (by
  have hs:=HB2.out.size;refine⟨((HB2.out.alloc hs _).alloc (by simp;omega) _).alloc (by simp;omega) _,((HP2.out.alloc _).alloc _).alloc _,(Blk.newAt (by simp)).alloc _,(((IFam.fresh w2 (B:=w.heap.size) hs (by omega)).later (below_alloc1 _ _)).later (below_alloc1 _ _)),?_,MetD.start,?_,by omega⟩
  ·have:=World.ownsMap_made (H:=Unit) ((w2.alloc (.cells (Array.replicate N (.slice none 0 0)) 68)).alloc (.cells #[.slice (some ⟨w2.heap.size,0,none⟩) N N] 177)) Tryz.prog 3 (plainElem Tryz.prog 4)
   simpa using this
  ·intro r hr
   simp at hr;simp[hr])
 generalize hW0:((w2.alloc (.cells (Array.replicate N (.slice none 0 0)) 68)).alloc (.cells #[.slice (some ⟨w2.heap.size,0,none⟩) N N] 177)).alloc (.map #[] 0)=W0 at *;generalize hgr:w2.heap.size=gr at *;clear hW0 hgr y0 y1 y2 y3 hmk hmp hi1 HT;have hgN:g.top<N:=by rw[HN.out];omega
 have hkl:=HK.out.short;go_loopw [25] (fun ii wr=>∃(k n:Nat) (R:List (Value×List It)) (M:List Nat) (D:DataW Unit),k≤ll∧ii=.int .i64 k∧n≤k∧Hid (Stp w wr bb w.heap.size (gr+1) (gr+1+1) gr N N n (301*k) R M D)∧Hid ((R.map (·.2),M)=(l.take k).foldl (g.stepA bg) (List.replicate N [],[]))) (fun ii _=>ll-(intOf ii).toNat)
 case atStart=>exact⟨0,0,_,[],_,zeL _,rfl,leR _,HS0,Hd (by simp)⟩
 case round=>
  rename World=>w9
  obtain⟨k,n,R,M,D,hk,rfl,hn,HS,HE⟩:=hrel;by_cases hlt:k<ll
  ·obtain⟨⟨xr,xd⟩,hx⟩:∃x,l[k]?=some x:=⟨_,eG (by rw[HLL.out];exact hlt)⟩
   have hxi:=HLI.out _ (mG hx);obtain⟨b,off,hAk,hb,c0,c1⟩:=(HK.out.later HS.out.below).at_ hx;subst hAk;simp only at hxi c0 c1;have HE1:=Hd (foldl_take (g.stepA bg) l (List.replicate N [],[]) k (xr,xd) hx);rw[←HE.out]at HE1;have HS1:=Hd (HS.out.later (below_alloc w9 (.cells #[.int .i64 xr,.int .i64 xd] 194)));have HX1:=Hd (Blk.new w9 194 #[.int .i64 xr,.int .i64 xd]);have HMV:=Hd (HS1.out.move HBG.out hgN (x:=(xr,xd)) hxi.1 hxi.2 (by omega));have HNE:Hid (¬IX gr R w9.heap.size):=Hd (by
     rintro(e|⟨i,x,hx,e⟩)
     ·have:=(own_lt HS.out.fam.row gr rfl).1;omega
     ·have:=(own_lt (HS.out.fam.own i x hx) _ e).1;omega)
   obtain⟨s,hs⟩:∃s,g.next (xr,xd)=s:=⟨_,rfl⟩
   have hst:s≤g.top:=by rw[←hs];exact HFIT.out.next_le _
   have hst2:s≤100000:=by omega
   have HSX:=Hd hs;have HNXX:=Hd (fun y (hy:Below w.heap.size w y)=>HNX.out y hy (xr,xd) hxi.1 hxi.2);simp only[hs]at HNXX;clear hx hs;by_cases hm:s∈M
   · have HE2:=Hd (HE1.out.trans (stepA_non g bg _ M _ s HSX.out (.inl hm)))
     have HM:=Hd hm;clear hm;go_wp2_with (first
      | (
        go_at_call 148;refine HMV.out.mono ?_;rintro e w3 ⟨rfl,R3,h3,hr3,hc3⟩
        have HX3:=Hd (hc3.blk HX1.out HNE.out);have p3:=Blk.cell h3.p 0;have x0:=Blk.cell HX3.out 0;have x1:=Blk.cell HX3.out 1;simp at p3 x0 x1;have HS3:=Hd h3;have HR3:=Hd hr3;clear h3 hr3 hc3)
      | (
        go_at_call 145;refine(HNXX.out _ HS3.out.below).mono ?_;rintro e w4 ⟨rfl,hb4⟩
        have HS4:=Hd (HS3.out.later hb4);have hlk:=met_look HS4.out.map HS4.out.met hst2;rw[decide_eq_true HM.out]at hlk;clear hb4))
     go_roundw
     case rel=>exact⟨k+1,n,R3,M,D,by omega,by go_num,by omega,Hd (HS4.out.more (by omega)),Hd (by rw[HE2.out,HR3.out])⟩
     case measure=>simp[intOf];omega
   · have HM:=Hd hm
     cases hns:g.non s with
     | false=>
      have HNS:=Hd hns;have HE2:=Hd (HE1.out.trans (stepA_non g bg _ M _ s HSX.out (.inr hns)));clear hm hns;go_wp2_with (first
      | (
        go_at_call 148;refine HMV.out.mono ?_;rintro e w3 ⟨rfl,R3,h3,hr3,hc3⟩
        have HX3:=Hd (hc3.blk HX1.out HNE.out);have p3:=Blk.cell h3.p 0;have x0:=Blk.cell HX3.out 0;have x1:=Blk.cell HX3.out 1;simp at p3 x0 x1;have HS3:=Hd h3;have HR3:=Hd hr3;clear h3 hr3 hc3)
      | (
        go_at_call 145;refine(HNXX.out _ HS3.out.below).mono ?_;rintro e w4 ⟨rfl,hb4⟩
        have HS4:=Hd (HS3.out.later hb4);have hlk:=met_look HS4.out.map HS4.out.met hst2;rw[decide_eq_false HM.out]at hlk;have p4:=Blk.cell HS4.out.p 0;simp at p4;obtain⟨y0,y1,y2,y3⟩:=HG0.out _ HS4.out.below;clear hb4)
      | (
        go_at_call 40;refine(HNO.out _ HS4.out.below s).mono ?_;rintro e w5 ⟨rfl,hb5⟩
        rw[HNS.out];have HS5:=Hd (HS4.out.later hb5);clear hb5))
      go_roundw
      case rel=>exact⟨k+1,n,R3,M,D,by omega,by go_num,by omega,Hd (HS5.out.more (by omega)),Hd (by rw[HE2.out,HR3.out])⟩
      case measure=>simp[intOf];omega
     | true=>
      have HNS:=Hd hns;have HE2:=Hd (HE1.out.trans (stepA_yes g bg _ M _ s HSX.out hm hns));clear hm hns;go_wp2_with (first
      | (
        go_at_call 148;refine HMV.out.mono ?_;rintro e w3 ⟨rfl,R3,h3,hr3,hc3⟩
        have HX3:=Hd (hc3.blk HX1.out HNE.out);have p3:=Blk.cell h3.p 0;have x0:=Blk.cell HX3.out 0;have x1:=Blk.cell HX3.out 1;simp at p3 x0 x1;have HS3:=Hd h3;have HR3:=Hd hr3;clear h3 hr3 hc3)
      | (
        go_at_call 145;refine(HNXX.out _ HS3.out.below).mono ?_;rintro e w4 ⟨rfl,hb4⟩
        have HS4:=Hd (HS3.out.later hb4);have hlk:=met_look HS4.out.map HS4.out.met hst2;rw[decide_eq_false HM.out]at hlk;have p4:=Blk.cell HS4.out.p 0;simp at p4;obtain⟨y0,y1,y2,y3⟩:=HG0.out _ HS4.out.below;clear hb4)
      | (
        go_at_call 40;refine(HNO.out _ HS4.out.below s).mono ?_;rintro e w5 ⟨rfl,hb5⟩
        rw[HNS.out];have HS5:=Hd (HS4.out.later hb5);clear hb5;obtain⟨w6,hput,hm6,hg6⟩:=met_put HS5.out.map (by omega) hst2;have HS6:=Hd (HS5.out.mapped hm6 hg6);have p6:=Blk.cell HS6.out.p 0;simp at p6;obtain⟨gr0,c0',Ab,cb,b4,b5,b6,b7⟩:=HBS.out.at_ hst;have b4:=(HS6.out.below.cell (p:=⟨bb,4,none⟩) hbb).trans b4;have b5:=(HS6.out.below.cell (p:=⟨gr0,s,none⟩) (World.block_lt_of_cell? w _ b5)).trans b5;have HPB:=Hd b6;have hbl:(bg.getD s []).length≤300:=by
          rw[dG];cases hq:bg[s]? with
          | none=>simp
          | some r=>exact(HBS.out.short r (mG hq)).1
        have HBI:Hid (∀x∈bg.getD s [],x.1≤g.R.length∧x.2≤9000):=Hd (by
          rw[dG];cases hq:bg[s]? with
          | none=>simp
          | some r=>exact(HBS.out.short r (mG hq)).2)
        have hsl:(s:Int)<((g.top+1:Nat):Int):=by omega
        generalize hrr:bg.getD s []=rr at *;generalize hrl:rr.length=rl at *;have HRL:=Hd hrl;clear hm6 hg6 b6 hrr hrl))
      go_loopw [57] (fun jj wr=>∃(j:Nat) (R4:List (Value×List It)),j≤rl∧jj=.int .i64 j∧Hid (Stp w wr bb w.heap.size (gr+1) (gr+1+1) gr N N (n+1) (301*k+1+j) R4 (s::M) (D.put (klN s) (.lit (.bool true))))∧Hid (R4.map (·.2)=(rr.take j).foldl (moveI g) (R3.map (·.2)))) (fun jj _=>rl-(intOf jj).toNat)
      case atStart=>exact⟨0,R3,zeL _,rfl,HS6,Hd rfl⟩
      case round=>
       obtain⟨j,R4,hj,rfl,HS7,HE7⟩:=hrel;rename World=>w7
       by_cases hlt2:j<rl
       · obtain⟨⟨yr,yd⟩,hy⟩:∃x,rr[j]?=some x:=⟨_,eG (by rw[HRL.out];exact hlt2)⟩
         have hyi:=HBI.out _ (mG hy);obtain⟨b2,off2,hAb,hb2,d0,d1⟩:=(HPB.out.later HS7.out.below).at_ hy;subst hAb;simp only at hyi d0 d1;have HS8:=Hd (HS7.out.later (below_alloc w7 (.cells #[.int .i64 yr,.int .i64 yd] 194)));have HMV2:=Hd (HS8.out.move HBG.out hgN (x:=(yr,yd)) hyi.1 hyi.2 (by omega));have HE8:=Hd (foldl_take (moveI g) rr (R3.map (·.2)) j (yr,yd) hy);rw[←HE7.out]at HE8;clear hy b4 b5 p6 x0 x1 p3 p4 y0 y1 y2 y3 hlk hput;go_wp2_with (
           go_at_call 148;refine HMV2.out.mono ?_;rintro e w10 ⟨rfl,R5,h5,hr5,hc5⟩
           have HS9:=Hd h5;have HR9:=Hd hr5;clear h5 hr5 hc5)
         go_roundw
         case rel=>exact⟨j+1,R5,by omega,by go_num,HS9,Hd (by rw[HE8.out,HR9.out])⟩
         case measure=>simp[intOf];omega
       · obtain rfl:j=rl:=by omega
         have HE8:Hid (R4.map (·.2)=rr.foldl (moveI g) (R3.map (·.2))):=Hd (by have:=HE7.out;rw[tkL (by rw[HRL.out];omega)]at this;exact this);go_wp2_with fail
         go_roundw
         case rel=>exact⟨k+1,n+1,R4,s::M,_,by omega,by go_num,by omega,Hd (HS7.out.more (by omega)),Hd (by rw[HE2.out,HE8.out,HR3.out])⟩
         case measure=>simp[intOf];omega
  ·obtain rfl:k=ll:=by omega
   have HE1:Hid ((R.map (·.2),M)=l.foldl (g.stepA bg) (List.replicate N [],[])):=Hd (by have:=HE.out;rw[tkL (by rw[HLL.out];omega)]at this;exact this);obtain⟨rows,hrows⟩:∃rows,R.map (·.2)=rows:=⟨_,rfl⟩
   have HRO:Hid (rows=(l.foldl (g.stepA bg) (List.replicate N [],[])).1):=Hd (by rw[←HE1.out,←hrows]);have HALL:Hid (∀r∈rows,∀y∈r,y.1≤100000∧y.2≤100000):=Hd (by
     have hnr:=HFIT.out.nr;rw[HRO.out];refine stepsA_all (P:=fun y=>y.1≤100000∧y.2≤100000) g bg (fun r hr x hx=>?_) l _ (fun r hr y hy=>?_) (fun x hx=>?_)
     ·have:=(HBS.out.short r hr).2 x hx;simp only;omega
     ·simp at hr;rw[hr.2]at hy;cases hy
     ·have:=HLI.out x hx;simp only;omega)
   have hrlen:rows.length=N:=by rw[←hrows,lM,HS.out.fam.len]
   have HRL2:=Hd hrlen;have HST2:Hid (R.map (·.2)=(rows.take 0).map orderL++rows.drop 0):=Hd (by simpa using hrows);have r0:=Blk.cell HS.out.r 0;simp at r0;clear hrows hrlen;go_wp2_with fail
   go_loopw [68] (fun jj wr=>∃(j:Nat) (R5:List (Value×List It)),j≤N∧jj=.int .i64 j∧Hid (Stp w wr bb w.heap.size (gr+1) (gr+1+1) gr N N n (301*k) R5 M D)∧Hid (R5.map (·.2)=(rows.take j).map orderL++rows.drop j)) (fun jj _=>N-(intOf jj).toNat)
   case atStart=>exact⟨0,R,zeL _,rfl,HS,HST2⟩
   case round=>
     obtain⟨j,R5,hj,rfl,HS5,HE5⟩:=hrel;rename World=>w7
     have r7:=Blk.cell HS5.out.r 0;simp at r7;by_cases hlt2:j<N
     ·obtain⟨⟨xv,xl⟩,hx⟩:∃x,R5[j]?=some x:=⟨_,eG (by rw[HS5.out.fam.len];exact hlt2)⟩
      have hrx:rows[j]?=some xl:=by have h1:=congrArg (·[j]?) HE5.out;simp only[pG,hx,Option.map_some]at h1;rw[List.getElem?_append_right (by simp;omega),List.getElem?_drop]at h1;simp only[lM,List.length_take]at h1;rw[HRL2.out,show j+(j-min j N)=j by omega]at h1;exact h1.symm
      have hxl:xl.length≤100000:=by have:=HS5.out.short xl (List.mem_map.2 ⟨_,mG hx,rfl⟩);omega
      have HXA:=Hd (HALL.out xl (mG hrx));have HTK:Hid ((R5.map (·.2)).set j (orderL xl)=(rows.take (j+1)).map orderL++rows.drop (j+1)):=Hd (by rw[HE5.out];exact take_turn orderL rows j xl hrx);have HOW:=Hd (HS5.out.fam.own j _ hx);have hgc:=own_cell HS5.out.fam.row j (by omega);rw[pG,hx]at hgc;simp only[Option.map_some]at hgc;obtain⟨cur,hcur⟩:=HS5.out.fam.blk;have hjN:(j:Int)<(N:Int):=by omega
      have hfz:=Blk.frozen hcur j;have hgl:=Blk.lt hcur;have HCUR:=Hd hcur;have HCJ:=Hd ((Blk.cell hcur j).symm.trans hgc);have HX:=Hd hx;have HSH:Hid (Short (301*k) ((R5.map (·.2)).set j (orderL xl))):=Hd (by
       intro r hr;rcases List.mem_or_eq_of_mem_set hr with h1|rfl
       · exact HS5.out.short r h1
       · have h1:=HS5.out.short xl (List.mem_map.2 ⟨_,mG hx,rfl⟩)
         have h2:=dedA_len (sortI xl);rw[sortI_len]at h2;unfold orderL;omega)
      clear hx hrx hcur;rcases own_form HOW.out with⟨hv,h0⟩|⟨b,c',hv,hb1,hb2,hb3,hb4,-⟩
      ·simp only at hv h0
       subst hv;obtain rfl:xl=[]:=List.eq_nil_of_length_eq_zero h0;have HON:=Hd (fun y=>order_nil y);have hd:=HS5.out.later (w2:=w7.drew) ((Below.refl _ w7).drew);have HT5:=Hd (hd.ordered HX.out (W:=w7.drew) (nv:=.slice none 0 0) (l:=orderL []) (Chg.refl _ _) ⟨rfl,.inl ⟨rfl,rfl⟩⟩ rfl HSH.out);clear hd;clear h0;go_wp2_with fail
       go_region_law (first|(go_simp;go_at_call 149;refine(HON.out _).mono ?_;rintro e w8 ⟨rfl,rfl⟩))
       all_goals go_wp2_with fail
       all_goals go_roundw
       all_goals first
         | exact⟨j+1,_,by omega,by go_num,Hd HT5.out,Hd (by rw[List.map_set];exact HTK.out)⟩
         | (simp[intOf];omega)
      ·simp only at hv hb3 hb4
       subst hv;have hd:=HS5.out.later (w2:=w7.drew) ((Below.refl _ w7).drew);have hrw:IRow w7.drew w.heap.size b xl.length c' xl:=own_below HOW.out ((Below.refl _ w7).drew);have HOR:=Hd (order_any hrw hxl hb3 HXA.out);have HT5:Hid (∀w8,IRow w8 w.heap.size b (orderL xl).length c' (orderL xl)→Chg (·=b) w7.drew w8→Stp w (w8.setCell ⟨gr,j,none⟩ (.slice (some ⟨b,0,none⟩) (orderL xl).length c')) bb w.heap.size (gr+1) (gr+1+1) gr N N n (301*k) (R5.set j (.slice (some ⟨b,0,none⟩) (orderL xl).length c',orderL xl)) M D∧Blk w8 (gr+1) 177 #[.slice (some ⟨gr,0,none⟩) N N]∧Blk w8 gr 68 cur):=Hd (fun w8 h8 k8=>by
         have kc:Chg (fun k=>(Value.slice (some ⟨b,0,none⟩) xl.length c').ownBlock=some k) w7.drew w8:=k8.mono (fun i hi=>by rw[hi];rfl);have hbg:∀{q:Nat} {t:TypeId} {cs:Array Value},Blk w7 q t cs→t≠194→q≠b:=fun hq ht e=>own_blk_ne HOW.out hq (Ne.symm ht) (by rw[e];rfl)
         exact⟨hd.ordered HX.out kc h8 rfl HSH.out,k8.blk (Blk.drew HS5.out.r) (hbg HS5.out.r (by decide)),k8.blk (Blk.drew HCUR.out) (hbg HCUR.out (by decide))⟩)
       clear hd hrw;go_wp2_with fail
       go_region_law (first|(
            go_simp;go_at_call 149;refine HOR.out.mono ?_;rintro e w8 ⟨rfl,h8,k8⟩;obtain⟨t1,t2,t3⟩:=HT5.out w8 h8 k8;have HT8:=Hd t1;have r8:=Blk.cell t2 0;have g8:=(Blk.cell t3 j).trans HCJ.out;have f8:=Blk.frozen t3 j;have l8:=Blk.lt t3;simp at r8;clear t1 t2 t3 h8 k8))
       all_goals go_wp2_with fail
       all_goals go_roundw
       all_goals first
         | exact⟨j+1,_,by omega,by go_num,Hd HT8.out,Hd (by rw[List.map_set];exact HTK.out)⟩
         | (simp[intOf];omega)
     ·obtain rfl:j=N:=by omega
      have HEE:Hid (R5.map (·.2)=rows.map orderL):=Hd (by have:=HE5.out;rw[tkL (by rw[HRL2.out];omega),List.drop_of_length_le (by rw[HRL2.out];omega),List.append_nil]at this;exact this);go_wp2_with fail
      go_ret;exact⟨_,_,_,rfl,HS5.out.fam,by rw[HEE.out,HRO.out],HS5.out.below⟩
end Go.Proofs.YthaacmablcpdfaaGreatDoor
