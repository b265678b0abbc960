/- Grammars that may be. A grammar's rule. What symbols begin with. What symbols begin with. What symbols begin with. -/
import Derived.Test.YthaacmablcpdfaaGreatDoorZal
import Derived.Test.YthaacmablcpdfaaGreatDoorZam
import Derived.Test.YthaacmablcpdfaaGreatDoorNm
namespace Go.Proofs.YthaacmablcpdfaaGreatDoor
open Go.RowKit
set_option linter.unusedVariables false
set_option maxRecDepth 100000
structure Gz where
 nt:Nat
 nn:Nat
 s:Nat
 R:List (Nat×List Nat)
abbrev It:=Nat×Nat
namespace Gz
def top(g:Gz):Nat:=g.nt+g.nn
def non(g:Gz)(x:Nat):Bool:=decide (g.nt<x)&&decide (x≤g.top)
def rule(g:Gz)(k:Nat):Nat×List Nat:=if k=g.R.length then(0,[g.s]) else g.R.getD k (0,[])
def right(g:Gz)(k:Nat):List Nat:=(g.rule k).2
def ofL(g:Gz)(s:Nat):List Nat:=(List.range g.R.length).filter fun k=>(g.R.getD k (0,[])).1==s
end Gz
def Gz.ofG(gm:Gm):Gz:=⟨gm.T.length,gm.N.length,gm.s.toNat,gm.R.map fun r=>(r.left.toNat,r.right.map Int.toNat)⟩
structure GN(w:World)(v:Value)(g:Gz):Prop where
 lies:∃gm,GrR w v gm∧gm.check=0∧g=Gz.ofG gm
structure Gz.Fit(g:Gz):Prop where
 nt:g.nt≤120
 nn:g.nn≤120
 nr:g.R.length≤300
 short:∀r∈g.R,r.2.length≤8
 start:g.nt<g.s∧g.s≤g.top
 left:∀r∈g.R,g.nt<r.1∧r.1≤g.top
 right:∀r∈g.R,∀x∈r.2,1≤x∧x≤g.top
theorem own_base{w:World}{base base':Nat}{e:TypeId}{size n:Nat}{v:Value}{xs:List Value}(h:w.ownsRow base e size v n xs)(hb:base'≤base):w.ownsRow base' e size v n xs:=by
 refine⟨h.1,?_⟩;rcases h.2 with hn|⟨g,cap,cur,rfl,h1,rest⟩
 ·exact .inl hn
 ·exact .inr ⟨g,cap,cur,rfl,leT hb h1,rest⟩
theorem GN.later{w w':World}{v:Value}{g:Gz}(h:GN w v g)(hb:Below w.heap.size w w'):GN w' v g:=by obtain⟨gm,h1,h2,h3⟩:=h.lies;exact⟨gm,h1.later hb,h2,h3⟩
theorem GN.fit{w:World}{v:Value}{g:Gz}(h:GN w v g):g.Fit:=by
 obtain⟨gm,h1,h2,rfl⟩:=h.lies;obtain⟨hf,-,-,hk,-,-⟩:=check_all h2;unfold Gm.few at hf;simp only[Bool.and_eq_true,decide_eq_true_eq]at hf;obtain⟨⟨f1,f2⟩,f3,f4⟩:=hf;have hs:=known_start hk;have hmem:∀r∈(Gz.ofG gm).R,∃q∈gm.R,r=(q.left.toNat,q.right.map Int.toNat):=fun r hr=>by unfold Gz.ofG at hr;obtain⟨q,hq,rfl⟩:=List.mem_map.1 hr;exact⟨q,hq,rfl⟩
 refine⟨f1,f2,by unfold Gz.ofG;simpa using f3,?_,?_,?_,?_⟩
 ·intro r hr
  obtain⟨q,hq,rfl⟩:=hmem r hr;have:=List.all_eq_true.1 f4 q hq;unfold shortR at this;simpa using this
 ·unfold Gz.top Gz.ofG;simp only;omega
 ·intro r hr
  obtain⟨q,hq,rfl⟩:=hmem r hr;have:=(known_left hk hq).1;unfold Gz.top Gz.ofG;simp only;omega
 ·intro r hr x hx
  obtain⟨q,hq,rfl⟩:=hmem r hr;obtain⟨y,hy,rfl⟩:=List.mem_map.1 hx;have:=(known_left hk hq).2 y hy;unfold Gz.top Gz.ofG;simp only;omega
abbrev Nums(w:World)(v:Value)(l:List Nat):Prop:=Arr NatV w v l
theorem nums_of{w:World}{v:Value}{l:List Int}(h:Arr IntV w v l)(h0:∀x∈l,0≤x):Nums w v (l.map Int.toNat):=by obtain⟨⟨A,c,hv,hc⟩,hs,hro⟩:=h;refine⟨⟨A,c,by rw[hv,lM],fun k x hx=>?_⟩,by rw[lM];exact hs,hro⟩;rw[pG]at hx;obtain⟨y,hy,rfl⟩:=Option.map_eq_some_iff.1 hx;obtain⟨b,off,hA,hlt,hcell⟩:=hc k y hy;have:=h0 y (mG hy);refine⟨b,off,hA,hlt,?_⟩;rw[hcell];unfold IntV NatV;rw[show ((y.toNat:Nat):Int)=y by omega]
theorem nums_own{w:World}{B:Nat}{v:Value}{l:List Nat}(h:w.ownsRow B 3 1 v l.length (l.map NatV))(hl:l.length≤4611686018427387904):Nums w v l:=by
 rcases own_form h with⟨rfl,h0⟩|⟨b,c,rfl,h1,h2,h3,h4,_⟩
 ·exact⟨⟨none,0,by rw[h0],fun k x hx=>by have:=(sG.1 hx).1;omega⟩,hl,fun A n c e=>by cases e;exact⟨leR _,fun _=>rfl⟩⟩
 ·refine⟨⟨_,c,rfl,fun k x hx=>⟨b,0,rfl,h2,?_⟩⟩,hl,fun A n c' e=>by cases e;exact⟨h3,fun e=>by cases e⟩⟩
  have hk:=(sG.1 hx).1;rw[Nat.zero_add,own_cell h k (by omega),pG,hx];rfl
theorem GN.open_{w:World}{v:Value}{g:Gz}(h:GN w v g):∃AT cT AN cN AR cR,v=.agg #[.slice AT g.nt cT,.slice AN g.nn cN,.slice AR g.R.length cR,.int .i64 g.s] ∧
  (∀k r,g.R[k]?=some r→∃b off rv,AR=some ⟨b,off,none⟩∧b<w.heap.size∧w.cell? ⟨b,off+k*2,none⟩=some (.int .i64 r.1)∧w.cell? ⟨b,off+k*2+1,none⟩=some rv∧Nums w rv r.2)∧g.R.length≤cR:=by
 obtain⟨gm,h1,h2,rfl⟩:=h.lies;obtain⟨hf,-,-,hk,-,-⟩:=check_all h2;obtain⟨AT,cT,AN,cN,AR,cR,hv,hT,hN,hR⟩:=h1.open_;have hst:=known_start hk;refine⟨AT,cT,AN,cN,AR,cR,?_,?_,?_⟩
 ·rw[hv]
  unfold Gz.ofG;simp only[lM];rw[show ((gm.s.toNat:Nat):Int)=gm.s by omega]
 ·intro k r hr
  unfold Gz.ofG at hr;simp only[pG]at hr;obtain⟨q,hq,rfl⟩:=Option.map_eq_some_iff.1 hr;obtain⟨⟨A,c,he,hc⟩,-,-⟩:=hR;cases he
  obtain⟨b,off,hA,hlt,e1,e2,e3⟩:=hc k q hq;obtain⟨k1,k2⟩:=known_left hk (mG hq);refine⟨b,off,q.v,hA,hlt,?_,e2,nums_of e3 (fun x hx=>by have:=k2 x hx;omega)⟩;rw[e1];simp only;rw[show ((q.left.toNat:Nat):Int)=q.left by omega]
 ·obtain⟨-,-,hro⟩:=hR
  have:=(hro _ _ _ rfl).1;unfold Gz.ofG;simp only[lM];exact this
section
variable {w:World} {v:Value} {g:Gz}
theorem topN_any(h:GN w v g):Calls Tryz.prog 38 #[v] w fun e w'=>e=.returned (.int .i64 g.top)∧Below w.heap.size w w':=by obtain⟨gm,h1,h2,rfl⟩:=h.lies;refine(top_any h1).mono ?_;rintro e w' ⟨rfl,hb⟩;exact⟨rfl,hb⟩
theorem nonN_any(h:GN w v g)(x:Nat):Calls Tryz.prog 40 #[v,.int .i64 x] w (Says w (g.non x)):=by
 obtain⟨gm,h1,h2,rfl⟩:=h.lies;have e:gm.non (x:Int)=(Gz.ofG gm).non x:=by unfold Gm.non Gz.non Gz.top Gz.ofG;rw[Bool.eq_iff_iff];simp only[Bool.and_eq_true,decide_eq_true_eq];omega
 rw[←e];exact non_any h1 x
theorem checkN_any(h:GN w v g):Calls Tryz.prog 35 #[v] w fun e w'=>e=.returned (.int .i64 0)∧Below w.heap.size w w':=by obtain⟨gm,h1,h2,rfl⟩:=h.lies;refine(check_any h1).mono ?_;intro e w' hh;rw[h2]at hh;exact hh
theorem ofN_any(h:GN w v g)(s:Nat):Calls Tryz.prog 83 #[v,.int .i64 s] w fun e w'=>∃o,e=.returned o∧OutAt 3 w ((g.ofL s).map NatV) o w':=by
 obtain⟨gm,h1,h2,rfl⟩:=h.lies;refine(of_any h1 s).mono ?_;rintro e w' ⟨o,rfl,A,c,rfl,ho,hb⟩;obtain⟨hf,-,-,hk,-,-⟩:=check_all h2;have e1:(ofTo gm.R (s:Int) gm.R.length).map IntV=((Gz.ofG gm).ofL s).map NatV:=by
  unfold ofTo Gz.ofL Gz.ofG;simp only[List.map_map,lM];have e2:(List.range gm.R.length).filter (fun i=>(gm.R[i]?.map (Gm.left (s:Int))).getD false)=(List.range gm.R.length).filter (fun k=>((gm.R.map fun r=>(r.left.toNat,r.right.map Int.toNat)).getD k (0,[])).1==s):=by apply List.filter_congr;intro k hk2;rw[List.mem_range]at hk2;rw[dG,pG,eG hk2];have:=(known_left hk (List.getElem_mem hk2)).1;simp only[Option.map_some,Option.getD_some,Gm.left];rw[Bool.eq_iff_iff,beq_iff_eq,beq_iff_eq];omega
  rw[e2];rfl
 rw[e1]at ho;have hb2:=below_alloc_trans hb;refine⟨_,rfl,A,c,by rw[←e1],?_,hb2⟩;exact own_base ho (by simp)
end
theorem results_fst{fn:Func}{p u:Tmp}{ty:TypeId}{P:Program}{w:World}{tmps:Array Value}{a:Addr}{v:Value}(h:fn.results=#[.cell p ty,.tmp u])(hp:tmps.getD p undef=.pointer (some a))(hl:(loadVar ty a).run P w=.ok v w) :
  (results fn tmps).run P w=.ok (.tuple #[v,tmps.getD u undef]) w:=by
 rw[Array.getD_eq_getD_getElem?]at hp;simp only[results,h];simp[Result.andThen,hp,asAddr,hl]
theorem load_rule{y:World}{b:Nat}{u rv:Value}(h:y.cell? ⟨b,0,none⟩=some u)(h2:y.cell? ⟨b,1,none⟩=some rv):(loadVar 65 ⟨b,0,none⟩).run Tryz.prog y=.ok (.agg #[u,rv]) y:=by simp[go_sem,h,h2]
def RuleEnd(w:World)(g:Gz)(k:Nat)(e:Ending)(w':World):Prop:=∃rv,e=.returned (.tuple #[.agg #[.int .i64 ((g.rule k).1:Nat),rv],.bool true])∧Nums w' rv (g.right k)∧Below w.heap.size w w'
set_option maxHeartbeats 3200000 in
theorem ruleN_any{w:World}{v:Value}{g:Gz}(h:GN w v g){k:Nat}(hk:k≤g.R.length):Calls Tryz.prog 26 #[v,.int .i64 k] w (RuleEnd w g k):=by
 have hf:=h.fit.nr;obtain⟨AT,cT,AN,cN,AR,cR,rfl,hc,hcR⟩:=h.open_;have HG:=Hd (Blk.new w 32 #[.slice AT g.nt cT,.slice AN g.nn cN,.slice AR g.R.length cR,.int .i64 g.s]);by_cases hq:k=g.R.length
 ·have e1:g.rule k=(0,[g.s]):=by unfold Gz.rule;rw[if_pos hq]
  unfold RuleEnd Gz.right;rw[e1];clear h hc;generalize g.R.length=nR at *;subst hq;generalize g.nt=nt at *;generalize g.nn=nn at *;generalize g.s=gs at *;go_enter Tryz.func26,Tryz.ntmps26
  go_wp2_with fail
  refine bodyPost_ret (results_fst rfl rfl (load_rule (b:=w.heap.size+1) (u:=.int .i64 0) (rv:=.slice (some ⟨w.heap.size+1+1,0,none⟩) 1 1) ?_ ?_)) rfl ?_
  ·exact(Blk.alloc (Blk.newAt (by simp)) _).cell 0
  ·exact(Blk.alloc (Blk.newAt (by simp)) _).cell 1
  ·refine⟨_,rfl,?_,((below_alloc w _).alloc (by simp) _).alloc (by simp;omega) _⟩
   refine nums_own (B:=0) (l:=[gs]) ?_ (by simp);refine⟨rfl,.inr ⟨w.heap.size+1+1,1,#[.int .i64 gs],rfl,zeL _,?_,by simp,by decide,rfl,rfl⟩⟩;exact Blk.newAt (by simp)
 ·obtain⟨r,hr⟩:∃r,g.R[k]?=some r:=⟨_,eG (by omega)⟩
  obtain⟨b,off,rv,rfl,hb,c0,c1,hn⟩:=hc k r hr;have e1:g.rule k=r:=by unfold Gz.rule;rw[if_neg hq,dG,hr];rfl
  unfold RuleEnd Gz.right;rw[e1];have HN:=Hd hn;obtain⟨⟨ra,rc,rfl,-⟩,-,-⟩:=id hn;have hlt:k<g.R.length:=by omega
  clear h hc hn hr e1;obtain⟨rl,rr⟩:=r;simp only at *;generalize rr.length=rn at *;generalize g.R.length=nR at *;generalize g.nt=nt at *;generalize g.nn=nn at *;generalize g.s=gs at *;go_enter Tryz.func26,Tryz.ntmps26
  go_wp2_with fail
  refine bodyPost_ret (results_fst rfl rfl (load_rule (b:=w.heap.size+1) (u:=.int .i64 rl) (rv:=.slice ra rn rc) ?_ ?_)) rfl ?_
  ·exact(Blk.newAt (by simp)).cell 0
  ·exact(Blk.newAt (by simp)).cell 1
  ·exact⟨_,rfl,HN.out.later (((below_alloc w _).alloc (by simp) _)),((below_alloc w _).alloc (by simp) _)⟩
def lineB(E i:Nat):List Nat→List Nat→Bool→List Nat×Bool×Bool
 | [],C,m=>(C,m,true)
 | x::l,C,m=>
  if E.testBit x then lineB E i l (C.set i (C.getD i 0|||C.getD x 0)) ((C.getD i 0|||C.getD x 0) != C.getD i 0||m)
  else(C.set i (C.getD i 0|||C.getD x 0),(C.getD i 0|||C.getD x 0) != C.getD i 0||m,false)
def begPass:List (Nat×List Nat)→Nat→List Nat→Bool→Nat×List Nat×Bool
 | [],E,C,more=>(E,C,more)
 | r::l,E,C,more=>
  match lineB E r.1 r.2 C false with
  | (C',m,all)=>begPass l (if all then E|||2 ^ r.1 else E) C' (more||((all&&!E.testBit r.1)||m))
def begLoop(g:Gz):Nat→Nat→List Nat→Option (Nat×List Nat)
 | 0,_,_=>none
 | f+1,E,C=>match begPass g.R E C false with
  | (E',C',true)=>begLoop g f E' C'
  | (E',C',false)=>some (E',C')
def behRule(g:Gz)(E o left:Nat):List Nat→List Nat→Bool→List Nat×Bool
 | [],C,more=>(C,more)
 | x::l,C,more=>
  if g.non x then
   match lineB E (o+x) l C false with
   | (C',m,true)=>behRule g E o left l (C'.set (o+x) (C'.getD (o+x) 0|||C'.getD (o+left) 0)) (more||((C'.getD (o+x) 0|||C'.getD (o+left) 0) != C'.getD (o+x) 0||m))
   | (C',m,false)=>behRule g E o left l C' (more||m)
  else behRule g E o left l C more
def behPass(g:Gz)(E o:Nat):List (Nat×List Nat)→List Nat→Bool→List Nat×Bool
 | [],C,more=>(C,more)
 | r::l,C,more=>match behRule g E o r.1 r.2 C false with|(C',m)=>behPass g E o l C' (more||m)
def behLoop(g:Gz)(E o:Nat):Nat→List Nat→Option (List Nat)
 | 0,_=>none
 | f+1,C=>match behPass g E o g.R C false with
  | (C',true)=>behLoop g E o f C'
  | (C',false)=>some C'
def begStart(g:Gz):List Nat:=(List.range (g.top+1)).map (fun x=>if x≤g.nt then 2 ^ x else 0)++List.replicate (g.top+1) 0
def firstOf(g:Gz)(f:Nat):Option (Nat×List Nat):=
 match begLoop g f 0 (begStart g) with
 | none=>none
 | some (E,C)=>match behLoop g E (g.top+1) f (C.set (g.top+1+g.s) (C.getD (g.top+1+g.s) 0|||1)) with
  | none=>none
  | some C'=>some (E,C')
def lineO(E:Nat)(C:List Nat):List Nat→Nat→Nat×Bool
 | [],S=>(S,true)
 | x::l,S=>if E.testBit x then lineO E C l (S|||C.getD x 0) else(S|||C.getD x 0,false)
theorem lineB_out{E:Nat}{C:List Nat}:∀(l:List Nat) (S:Nat) (m:Bool),(∀x∈l,x<C.length)→∃m',lineB E C.length l (C++[S]) m=(C++[(lineO E C l S).1],m',(lineO E C l S).2)
 | [],S,m,_=>⟨m,rfl⟩
 | x::l,S,m,h=>by
  have hx:=h x (by simp);have e1:(C++[S]).getD C.length 0=S:=by simp
  have e2:(C++[S]).getD x 0=C.getD x 0:=by rw[dG,gL hx,dG]
  have e3:∀T,(C++[S]).set C.length T=C++[T]:=fun T=>by simp
  unfold lineB lineO;rw[e1,e2,e3];split
  ·exact lineB_out l _ _ (fun y hy=>h y (by simp[hy]))
  ·exact⟨_,rfl⟩
theorem orp_any{w:World}{s t:SetH}{S T:Nat}(h:SetAt w s S)(ht:SetAt w t T)(hn:t.n=s.n):Calls Tryz.prog 157 #[s.v,t.v] w fun e w'=>e=.returned (.bool (S|||T != S))∧SetAt w' s (S|||T)∧Chg s.X w w':=by have e:mixK S T (nW s.n)=S|||T:=mix_all h.fit (by rw[←hn];exact ht.fit);rw[←e];exact or_any h ht hn
structure Fam(w:World)(n:Nat)(P:List SetH)(C:List Nat):Prop where
 len:P.length=C.length
 room:∀p∈P,p.n=n
 at_:∀i p,P[i]?=some p→SetAt w p (C.getD i 0)
 apart:(P.map SetH.wb).Nodup
theorem nodup_get{l:List Nat}(h:l.Nodup){i j a:Nat}(hi:l[i]?=some a)(hj:l[j]?=some a):i=j:=by obtain⟨h1,e1⟩:=sG.1 hi;obtain⟨h2,e2⟩:=sG.1 hj;exact(List.getElem_inj (h₀:=h1) (h₁:=h2) h).1 (e1.trans e2.symm)
theorem SetAt.head_ne{w:World}{s t:SetH}{S T:Nat}(h:SetAt w s S)(ht:SetAt w t T):s.h≠t.wb:=Blk.ne_ h.head ht.words (by decide)
theorem Fam.turn{w w':World}{n:Nat}{P:List SetH}{C:List Nat}(h:Fam w n P C){i:Nat}{p:SetH}{T:Nat}(hp:P[i]?=some p)(hs:SetAt w' p T)(hc:Chg p.X w w'):Fam w' n P (C.set i T):=by
 have hi:=(sG.1 hp).1;refine⟨by rw[List.length_set];exact h.len,h.room,fun j q hq=>?_,h.apart⟩;by_cases hj:i=j
 ·subst hj
  rw[hp]at hq;cases hq
  rw[dG,tG (by rw[←h.len];exact hi)];exact hs
 ·rw[dG,uG hj,←dG]
  have hq0:=h.at_ j q hq;refine hq0.chg hc (hq0.head_ne (h.at_ i p hp)) ?_;intro e;refine hj (nodup_get h.apart (a:=p.wb) ?_ ?_)
  ·rw[pG,hp];rfl
  ·rw[pG,hq];exact congrArg some e
theorem Fam.chg{w w':World}{n:Nat}{P:List SetH}{C:List Nat}{X:Nat→Prop}(h:Fam w n P C)(hc:Chg X w w')(hx:∀p∈P,¬X p.h∧¬X p.wb):Fam w' n P C:=
 ⟨h.len,h.room,fun i p hp=>(h.at_ i p hp).chg hc (hx p (mG hp)).1 (hx p (mG hp)).2,h.apart⟩
theorem Fam.later{w w':World}{n:Nat}{P:List SetH}{C:List Nat}(h:Fam w n P C)(hb:Below w.heap.size w w'):Fam w' n P C:=
 h.chg (X:=fun _=>False) (Chg.of_below hb) (fun _ _=>⟨id,id⟩)
theorem Fam.lt{w:World}{n:Nat}{P:List SetH}{C:List Nat}(h:Fam w n P C){p:SetH}(hp:p∈P):p.h<w.heap.size∧p.wb<w.heap.size:=by obtain⟨i,hi,rfl⟩:=List.mem_iff_getElem.1 hp;have:=h.at_ i _ (eG hi);exact⟨this.head.lt,this.words.lt⟩
theorem Fam.push{w w':World}{n:Nat}{P:List SetH}{C:List Nat}(h:Fam w n P C){t:SetH}{T:Nat}(hb:Below w.heap.size w w')(ht:SetAt w' t T)(hn:t.n=n)(hlt:w.heap.size≤t.wb):Fam w' n (P++[t]) (C++[T]):=by
 refine⟨by simp[h.len],?_,?_,?_⟩
 ·intro p hp
  rw[mA,mS]at hp;rcases hp with hp|rfl
  ·exact h.room p hp
  ·exact hn
 ·intro i p hp
  by_cases hi:i<P.length
  ·rw[gL hi]at hp
   rw[dG,gL (by rw[←h.len];exact hi),←dG];exact(h.at_ i p hp).later hb
  ·have hi2:i=P.length:=by
    have:=(sG.1 hp).1;simp at this;omega
   subst hi2;simp at hp;subst hp;rw[h.len];simpa using ht
 ·rw[mpA,List.nodup_append]
  refine⟨h.apart,by simp,?_⟩;intro a ha b hb2;simp at hb2;subst hb2;obtain⟨p,hp,rfl⟩:=List.mem_map.1 ha;have:=(h.lt hp).2;omega
theorem symbol_any(w:World)(a b x:Nat):Calls Tryz.prog 215 #[.agg #[.int .i64 a,.int .i64 b],.int .i64 x] w (Says w (decide (x≤b))):=by
 go_enter Tryz.func215,Tryz.ntmps215
 go_wp2;go_ret;exact⟨ret_bool (by simp),below_alloc _ _⟩
theorem nonz_any(w:World)(a b x:Nat):Calls Tryz.prog 216 #[.agg #[.int .i64 a,.int .i64 b],.int .i64 x] w (Says w (decide (a<x)&&decide (x≤b))):=by
 go_enter Tryz.func216,Tryz.ntmps216
 go_wp2;all_goals go_ret
 all_goals exact⟨ret_bool (by simp[*]),below_alloc _ _⟩
theorem ElSet:El Tryz.prog 189 90 1 8:=El.of (z:=.pointer none) Tryz.underlying189 (by kernel_rfl) rfl (by decide)
theorem SetAt.keeps{w w':World}{s:SetH}{S B:Nat}{T:List TypeId}(h:SetAt w s S)(hk:Keeps B T w w')(h1:161 ∉ T)(h2:156 ∉ T):SetAt w' s S:=
 ⟨hk.blk h.head (.inr h1),hk.blk h.words (.inr h2),h.small,h.fit⟩
theorem Fam.keeps{w w':World}{n B:Nat}{P:List SetH}{C:List Nat}{T:List TypeId}(h:Fam w n P C)(hk:Keeps B T w w')(h1:161 ∉ T)(h2:156 ∉ T):Fam w' n P C:=
 ⟨h.len,h.room,fun i p hp=>(h.at_ i p hp).keeps hk h1 h2,h.apart⟩
theorem Fam.nil(w:World)(n:Nat):Fam w n [] (List.replicate 0 0):=⟨rfl,(fun p hp=>by cases hp),(fun i p hp=>by cases hp),List.nodup_nil⟩
def PRow(w:World)(B:Nat)(v:Value)(P:List SetH):Prop:=w.ownsRow B 90 1 v P.length (P.map SetH.v)
structure Fresh(w:World)(n k:Nat)(o:Value)(wr:World):Prop where
 row:∃A c P,o=.slice A k c∧P.length=k∧PRow wr w.heap.size (.slice A k c) P∧Fam wr n P (List.replicate k 0)∧(∀p∈P,w.heap.size≤p.h∧w.heap.size≤p.wb)
 below:Below w.heap.size w wr
theorem fresh_any{w:World}{k n:Nat}(hk:k≤1000)(h1:1≤n)(h2:n≤4096):Calls Tryz.prog 196 #[.int .i64 k,.int .i64 n] w fun e w'=>∃o,e=.returned o∧Fresh w n k o w':=by
 have HN:=Hd (fun y=>new_any (w:=y) h1 h2);go_enter Tryz.func196,Tryz.ntmps196
 go_wp2_with fail
 go_loopw [5,7] (fun o i wr=>∃j:Nat,j≤k∧i=.int .i64 j∧Hid (Fresh w n j o wr)) (fun _ i _=>k-(intOf i).toNat)
 case atStart=>refine⟨0,zeL _,rfl,Hd ⟨⟨none,0,[],rfl,rfl,⟨rfl,.inl ⟨rfl,rfl⟩⟩,Fam.nil _ _,fun p hp=>by cases hp⟩,Below.refl _ _⟩⟩
 case round=>
  obtain⟨j,hj,rfl,HF⟩:=hrel;by_cases hlt:j<k
  ·obtain⟨A,c,P,rfl,hP,hrow,hfam,hge⟩:=HF.out.row
   have HB:=Hd HF.out.below;have hrow2:wr.ownsRow w.heap.size 90 1 (.slice A j c) j (P.map SetH.v):=by unfold PRow at hrow;rw[hP]at hrow;exact hrow
   have HROW:=Hd hrow2;have HFAM:=Hd hfam;have HGE:=Hd hge;have HP:=Hd hP;have HS1:=Hd (one_src 90 (.pointer (some ⟨wr.heap.size+1,0,none⟩)) rfl);clear hrow hrow2 hfam hge hP HF;go_wp2_with (first
    | (
     go_at_call 84;refine(HN.out _).mono ?_;rintro e w1 ⟨rfl,hs,hb⟩
     have HS:=Hd hs;have HB1:=Hd hb;unfold SetH.v;clear hs hb)
    | (
     at_builtin;refine wpList_app ElSet (.tmp 9) (.tmp 12) rfl rfl (base:=w.heap.size) (n:=j) (m:=1) (N:=j+1) (xs:=P.map SetH.v) (news:=[.pointer (some ⟨wr.heap.size+1,0,none⟩)]) rfl rfl ((own_below HROW.out HB1.out).alloc _) (HS1.out _) rfl (by unfold maxLen;omega) (by omega) (by have:=HB.out.size;have:=HB1.out.size;simp;omega) ?_
     intro A2 c2 w2 r1 r2 r3;have HF:Hid (Fresh w n (j+1) (.slice A2 (j+1) c2) w2):=Hd (by
      have hw1:=HB.out.size;have hw2:=HB1.out.size;have hnew:SetAt w2 ⟨wr.heap.size+1,wr.heap.size,n⟩ 0:=(HS.out.later (below_alloc w1 _)).keeps r2 (by decide) (by decide);have hfm:=(HFAM.out.push (t:=⟨wr.heap.size+1,wr.heap.size,n⟩) (T:=0) HB1.out HS.out rfl (leR _))
      have hfm2:=(hfm.later (below_alloc w1 (.cells #[.pointer (some ⟨wr.heap.size+1,0,none⟩)] 90))).keeps r2 (by decide) (by decide);refine⟨⟨A2,c2,P++[⟨wr.heap.size+1,wr.heap.size,n⟩],rfl,by simp[HP.out],?_,?_,?_⟩,?_⟩
      ·unfold PRow
       rw[show (P++[(⟨wr.heap.size+1,wr.heap.size,n⟩:SetH)]).length=j+1 by simp[HP.out],mpA];exact r1
      ·rw[List.replicate_succ']
       exact hfm2
      ·intro p hp
       rw[mA,mS]at hp;rcases hp with hp|rfl
       ·exact HGE.out p hp
       ·exact⟨by show w.heap.size≤wr.heap.size+1;omega,hw1⟩
      ·exact(HB.out.trans (HB1.out.mono hw1)).trans (((below_alloc w1 _).mono (by omega)).trans (r2.below (by simp;omega))))
     clear r1 r2 r3))
   go_roundw
   case rel=>exact⟨j+1,by omega,by go_num,HF⟩
   case measure=>simp[intOf];omega
  ·obtain rfl:j=k:=by omega
   go_wp2_with fail
   go_ret;exact⟨_,rfl,HF.out⟩
structure Fs where
 q:Nat
 e:SetH
 P:List SetH
 bv:Value
 hv:Value
structure FsAt(w:World)(F:Fs)(g:Gz)(E:Nat):Prop where
 blk:Blk w F.q 279 #[.int .i64 g.nt,.int .i64 g.top,F.e.v,F.bv,F.hv]
 e:SetAt w F.e E
 en:F.e.n=g.top+1
 plen:F.P.length=2*(g.top+1)
 bv:PRow w 0 F.bv (F.P.take (g.top+1))
 hv:PRow w 0 F.hv (F.P.drop (g.top+1))
 top:g.top≤1000
theorem FsAt.chg{w w':World}{F:Fs}{g:Gz}{E S:Nat}{p:SetH}(h:FsAt w F g E)(hc:Chg p.X w w')(hp:SetAt w p S)(hne:F.e.wb≠p.wb):FsAt w' F g E:=
 ⟨hc.blk h.blk (Blk.ne_ h.blk hp.words (by decide)),h.e.chg hc (h.e.head_ne hp) hne,h.en,h.plen,
  hc.own h.bv (fun k hk e=>own_blk_ne h.bv hp.words (by decide) (by rw[hk,show k=p.wb from e])),
  hc.own h.hv (fun k hk e=>own_blk_ne h.hv hp.words (by decide) (by rw[hk,show k=p.wb from e])),h.top⟩
theorem FsAt.later{w w':World}{F:Fs}{g:Gz}{E:Nat}(h:FsAt w F g E)(hb:Below w.heap.size w w'):FsAt w' F g E:=
 ⟨h.blk.below hb h.blk.lt,h.e.later hb,h.en,h.plen,own_below h.bv hb,own_below h.hv hb,h.top⟩
theorem drop_more{α:Type}{l:List α}{k:Nat}{a:α}(h:l[k]?=some a):l.drop k=a::l.drop (k+1):=by obtain⟨hk',e⟩:=sG.1 h;rw[List.drop_eq_getElem_cons hk',e]
theorem PRow.at_{w:World}{B:Nat}{v:Value}{P:List SetH}(h:PRow w B v P){i:Nat}{p:SetH}(hp:P[i]?=some p):∃g c,v=.slice (some ⟨g,0,none⟩) P.length c∧P.length≤c∧w.cell? ⟨g,i,none⟩=some p.v:=by
 have hi:=(sG.1 hp).1;rcases own_form h with⟨_,h0⟩|⟨g,c,rfl,h1,h2,h3,h4,-⟩
 ·omega
 ·refine⟨g,c,rfl,h3,?_⟩
  have:=own_cell h i (by omega);rw[this,pG,hp];rfl
theorem FsAt.open_{w:World}{F:Fs}{g:Gz}{E:Nat}(h:FsAt w F g E):∃bg bc hg hc,F.bv=.slice (some ⟨bg,0,none⟩) (g.top+1) bc∧F.hv=.slice (some ⟨hg,0,none⟩) (g.top+1) hc∧g.top+1≤bc∧g.top+1≤hc:=by
 have hl:=h.plen;obtain⟨p,hp⟩:∃p,(F.P.take (g.top+1))[0]?=some p:=⟨_,eG (by rw[List.length_take];omega)⟩
 obtain⟨q,hq⟩:∃p,(F.P.drop (g.top+1))[0]?=some p:=⟨_,eG (by rw[List.length_drop];omega)⟩
 obtain⟨bg,bc,e1,e2,-⟩:=h.bv.at_ hp;obtain⟨hg,hc,e3,e4,-⟩:=h.hv.at_ hq;rw[List.length_take,hl,Nat.min_eq_left (by omega)]at e1 e2;rw[List.length_drop,hl,show 2*(g.top+1)-(g.top+1)=g.top+1 by omega]at e3 e4;exact⟨bg,bc,hg,hc,e1,e3,e2,e4⟩
theorem FsAt.cells{w:World}{F:Fs}{g:Gz}{E:Nat}(h:FsAt w F g E):w.cell? ⟨F.q,0,none⟩=some (.int .i64 g.nt)∧w.cell? ⟨F.q,1,none⟩=some (.int .i64 g.top)∧w.cell? ⟨F.q,2,none⟩=some (.pointer (some ⟨F.e.h,0,none⟩))∧w.cell? ⟨F.q,3,none⟩=some F.bv∧w.cell? ⟨F.q,4,none⟩=some F.hv:=
 ⟨h.blk.cell 0,h.blk.cell 1,h.blk.cell 2,h.blk.cell 3,h.blk.cell 4⟩
theorem FsAt.begin_{w:World}{F:Fs}{g:Gz}{E bg n bc x:Nat}{q:SetH}(h:FsAt w F g E)(hv:F.bv=.slice (some ⟨bg,0,none⟩) n bc)(hq:F.P[x]?=some q)(hx:x≤g.top):w.cell? ⟨bg,x,none⟩=some (.pointer (some ⟨q.h,0,none⟩)):=by
 obtain⟨g2,c2,e1,-,e2⟩:=h.bv.at_ (i:=x) (p:=q) (by rw[List.getElem?_take,if_pos (by omega)];exact hq);rw[hv]at e1;cases e1
 exact e2
theorem FsAt.behind_{w:World}{F:Fs}{g:Gz}{E hg n hc x:Nat}{q:SetH}(h:FsAt w F g E)(hv:F.hv=.slice (some ⟨hg,0,none⟩) n hc)(hq:F.P[g.top+1+x]?=some q)(hx:x≤g.top):w.cell? ⟨hg,x,none⟩=some (.pointer (some ⟨q.h,0,none⟩)):=by
 obtain⟨g2,c2,e1,-,e2⟩:=h.hv.at_ (i:=x) (p:=q) (by rw[List.getElem?_drop];exact hq);rw[hv]at e1;cases e1
 exact e2
theorem lineB_one{E i x:Nat}{l C:List Nat}{m:Bool}(h:E.testBit x=true):lineB E i (x::l) C m=lineB E i l (C.set i (C.getD i 0|||C.getD x 0)) ((C.getD i 0|||C.getD x 0) != C.getD i 0||m):=by rw[lineB,if_pos h]
theorem lineB_stop{E i x:Nat}{l C:List Nat}{m:Bool}(h:E.testBit x=false):lineB E i (x::l) C m=(C.set i (C.getD i 0|||C.getD x 0),(C.getD i 0|||C.getD x 0) != C.getD i 0||m,false):=by rw[lineB,if_neg (by simp[h])]
def LineEnd(w:World)(n:Nat)(Q:List SetH)(p:SetH)(r:List Nat×Bool×Bool)(e:Ending)(w':World):Prop:=e=.returned (.tuple #[.bool r.2.1,.bool r.2.2])∧Fam w' n Q r.1∧Chg p.X w w'
theorem line_any{w:World}{F:Fs}{g:Gz}{E:Nat}{Q:List SetH}{C:List Nat}(h:FsAt w F g E)(hf:Fam w (g.nt+1) Q C)(hpre:F.P <+: Q){i:Nat}{p:SetH}(hp:Q[i]?=some p)(hne:F.e.wb≠p.wb){lv:Value}{l:List Nat}(hl:Nums w lv l)(hx:∀x∈l,x≤g.top) :
  Calls Tryz.prog 197 #[.pointer (some ⟨F.q,0,none⟩),p.v,lv] w (LineEnd w (g.nt+1) Q p (lineB E i l C false)):=by
 have hpS:=hf.at_ i p hp;have HFS:Hid (∀y,Chg p.X w y→FsAt y F g E):=Hd (fun y hy=>h.chg hy hpS hne);obtain⟨⟨A,c,rfl,hc⟩,hs,hro⟩:=hl;have hwb:=hpS.words;have HC:Hid (∀y,Chg p.X w y→∀(k x:Nat),l[k]?=some x→∃b off,A=some ⟨b,off,none⟩∧y.cell? ⟨b,off+k,none⟩=some (.int .i64 x)):=Hd (fun y hy k x hk=>by
  obtain⟨b,off,hA,hlt,hcell⟩:=hc k x hk;refine⟨b,off,hA,?_⟩;have hbne:b≠p.wb:=by rintro rfl;have:=hcell;have h2:=hwb.cell (off+k);rw[h2]at this;unfold wordsA at this;rw[List.getElem?_toArray,pG]at this;obtain⟨z,_,hz⟩:=Option.map_eq_some_iff.1 this;cases hz
  rw[World.cell?_of_block (w:=w) (hy.block b hlt hbne)];exact hcell)
 have HX:=Hd hx;have HF0:=Hd hf;have HP:=Hd hp;have HPR:=Hd hpre;have htop:=h.top;obtain⟨bg,bc,hg,hcc,hbv,-,hbc,-⟩:=h.open_;have hPl:=h.plen;clear hc hx hpS hwb hf hp hpre hne h hro;unfold LineEnd;generalize hR:lineB E i l C false=R;have HR:=Hd hR;clear hR;obtain⟨C',m',all'⟩:=R;simp only;unfold SetH.v;go_enter Tryz.func197,Tryz.ntmps197
 go_wp2_with fail
 go_loopw [8,13] (fun mo ii wr=>∃(j:Nat) (Cj:List Nat) (m:Bool),j≤l.length∧ii=.int .i64 j∧mo=.bool m∧Hid (Fam wr (g.nt+1) Q Cj)∧Hid (Chg p.X w wr)∧Hid (lineB E i (l.drop j) Cj m=(C',m',all'))) (fun _ ii _=>l.length-(intOf ii).toNat)
 case atStart=>exact⟨0,C,false,zeL _,rfl,rfl,HF0,Hd (Chg.refl _ _),HR⟩
 case round=>
  obtain⟨j,Cj,m,hj,rfl,rfl,HFj,HCH,HRj⟩:=hrel;by_cases hlt:j<l.length
  ·have hxj:=eG hlt
   generalize l[j]=x at hxj;have hxt:=HX.out x (mG hxj);have hdrop:=drop_more hxj;rw[hdrop]at HRj;obtain⟨b,off,rfl,hcell⟩:=HC.out wr HCH.out j x hxj;obtain⟨q,hqP⟩:∃q,F.P[x]?=some q:=⟨_,eG (by omega)⟩
   have HQ0:=Hd hqP;have HQ:Hid (Q[x]?=some q):=Hd (by obtain⟨R,hR⟩:=HPR.out;rw[←hR,gL (by omega)];exact hqP)
   obtain⟨q0,q1,-,-,-⟩:=(HFS.out wr HCH.out).cells;have HSY:Hid (∀y,Calls Tryz.prog 215 #[.agg #[.int .i64 g.nt,.int .i64 g.top],.int .i64 x] y (Says y true)):=Hd (fun y=>by have:=symbol_any y g.nt g.top x;rwa [decide_eq_true hxt]at this);have HOR:Hid (∀y,Fam y (g.nt+1) Q Cj→Calls Tryz.prog 157 #[.pointer (some ⟨p.h,0,none⟩),.pointer (some ⟨q.h,0,none⟩)] y fun e w'=>e=.returned (.bool (Cj.getD i 0|||Cj.getD x 0 != Cj.getD i 0))∧Fam w' (g.nt+1) Q (Cj.set i (Cj.getD i 0|||Cj.getD x 0))∧Chg p.X y w'):=Hd (fun y hy=>by
    refine(orp_any (hy.at_ i p HP.out) (hy.at_ x q HQ.out) ?_).mono ?_
    ·rw[hy.room p (mG HP.out),hy.room q (mG HQ.out)]
    ·rintro e w' ⟨he,h1,h2⟩
     exact⟨he,hy.turn HP.out h1 h2,h2⟩)
   have HHS:Hid (∀y,Chg p.X w y→Calls Tryz.prog 39 #[.pointer (some ⟨F.e.h,0,none⟩),.int .i64 x] y fun e w'=>e=.returned (.bool (E.testBit x))∧w'=y):=Hd (fun y hy=>has_any (HFS.out y hy).e (by rw[(HFS.out y hy).en];omega));have HL1:=Hd (fun h=>lineB_one (E:=E) (i:=i) (x:=x) (l:=l.drop (j+1)) (C:=Cj) (m:=m) h);have HL0:=Hd (fun h=>lineB_stop (E:=E) (i:=i) (x:=x) (l:=l.drop (j+1)) (C:=Cj) (m:=m) h);clear hxj hdrop hqP;generalize (Cj.getD i 0|||Cj.getD x 0 != Cj.getD i 0)=b1 at *;generalize Cj.set i (Cj.getD i 0|||Cj.getD x 0)=Cn at *;generalize hbt:E.testBit x=b2 at *;cases b2
   ·have HE:=HL0.out rfl
    rw[HRj.out]at HE;cases HE
    clear hbt HL0 HL1;cases b1
    all_goals go_wp2_with (first
     | (
      go_at_call 215;refine(HSY.out _).mono ?_;rintro e w1 ⟨rfl,hb1⟩
      have HC1:=Hd (HCH.out.next (Chg.of_below hb1));have HF1:=Hd (HFj.out.later hb1);have d1:=(HFS.out w1 HC1.out).begin_ hbv HQ0.out hxt;obtain⟨-,-,-,d2,-⟩:=(HFS.out w1 HC1.out).cells;rw[hbv]at d2;clear hb1)
     | (
      go_at_call 157;refine(HOR.out _ HF1.out).mono ?_;rintro e w2 ⟨rfl,hf2,hc2⟩
      have HC2:=Hd (HC1.out.next hc2);have HF2:=Hd hf2;obtain⟨-,-,d3,-,-⟩:=(HFS.out w2 HC2.out).cells;clear hf2 hc2)
     | (go_at_call 39;refine(HHS.out _ HC2.out).mono ?_;rintro e w3 ⟨rfl,rfl⟩))
    all_goals go_ret2
    all_goals exact⟨rfl,HF2.out,HC2.out⟩
   ·have HE:=HL1.out rfl
    rw[HRj.out]at HE;have HRn:=Hd HE.symm;clear hbt HL0 HL1 HE HRj;cases b1
    all_goals go_wp2_with (first
     | (
      go_at_call 215;refine(HSY.out _).mono ?_;rintro e w1 ⟨rfl,hb1⟩
      have HC1:=Hd (HCH.out.next (Chg.of_below hb1));have HF1:=Hd (HFj.out.later hb1);have d1:=(HFS.out w1 HC1.out).begin_ hbv HQ0.out hxt;obtain⟨-,-,-,d2,-⟩:=(HFS.out w1 HC1.out).cells;rw[hbv]at d2;clear hb1)
     | (
      go_at_call 157;refine(HOR.out _ HF1.out).mono ?_;rintro e w2 ⟨rfl,hf2,hc2⟩
      have HC2:=Hd (HC1.out.next hc2);have HF2:=Hd hf2;obtain⟨-,-,d3,-,-⟩:=(HFS.out w2 HC2.out).cells;clear hf2 hc2)
     | (go_at_call 39;refine(HHS.out _ HC2.out).mono ?_;rintro e w3 ⟨rfl,rfl⟩))
    all_goals go_roundw
    all_goals first
     | exact⟨j+1,Cn,m,by omega,by go_num,rfl,HF2,HC2,HRn⟩
     | exact⟨j+1,Cn,true,by omega,by go_num,rfl,HF2,HC2,HRn⟩
     | (simp[intOf];omega)
  ·obtain rfl:j=l.length:=by omega
   have e:=HRj.out;rw[List.drop_length,lineB]at e;cases e
   go_wp2_with fail
   go_ret2
   exact⟨rfl,HFj.out,HCH.out⟩
end Go.Proofs.YthaacmablcpdfaaGreatDoor
