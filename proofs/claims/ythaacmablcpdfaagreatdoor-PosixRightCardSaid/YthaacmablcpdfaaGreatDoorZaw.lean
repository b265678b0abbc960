/- What comes with nonterminals. -/
import Derived.Test.YthaacmablcpdfaaGreatDoorZav
import Derived.Test.YthaacmablcpdfaaGreatDoorNm
namespace Go.Proofs.YthaacmablcpdfaaGreatDoor
open Go.RowKit
set_option linter.unusedVariables false
set_option maxRecDepth 100000
namespace Gz
def begStep(g:Gz)(p:List Nat×List Nat)(x:It):List Nat×List Nat:=if g.non (g.next x)=true∧g.next x ∉ p.2 then(p.1++[g.next x],g.next x::p.2) else p
def begQ(g:Gz):Nat→List Nat→List Nat→List It→Option (List It)
 | 0,_,_,_=>none
 | _+1,[],_,all=>if 300<all.length then none else some all
 | f+1,s::todo,M,all=>if 10000<todo.length+M.length+all.length then none else begQ g f ((g.rulesI s).foldl g.begStep (todo,M)).1 ((g.rulesI s).foldl g.begStep (todo,M)).2 (all++g.rulesI s)
def begFuel:Nat:=1000
def begAll(g:Gz):Nat→Option (List (List It))
 | 0=>some []
 | k+1=>match begAll g k with
  | none=>none
  | some l=>if k≤g.nt then some (l++[[]]) else match begQ g begFuel [k] [k] [] with
   | none=>none
   | some r=>some (l++[r])
def begsI(g:Gz):Option (List (List It)):=begAll g (g.top+1)
def rowsI:List (List It)→Nat→List (List It)→List It→List (List It)×List It
 | [],_,L,t=>(L,t)
 | k::r,s,L,t=>if k.length=0 then rowsI r (s+1) L t else rowsI r (s+1) (stateL L k).2 (t++[(s,(stateL L k).1)])
def buildI(g:Gz)(bg:List (List It)):Nat→Nat→List (List It)→List (List It)→Option (List (List It)×List (List It))
 | 0,_,_,_=>none
 | f+1,i,L,E=>match L[i]? with
  | none=>some (L,E)
  | some K=>if 300<K.length then none else
   if 2000<(rowsI (g.stepsI bg K) 0 L []).1.length then none else buildI g bg f (i+1) (rowsI (g.stepsI bg K) 0 L []).1 (E++[(rowsI (g.stepsI bg K) 0 L []).2])
def autoI(g:Gz)(f:Nat):Option (List (List It)×List (List It)):=match g.begsI with
 | none=>none
 | some bg=>buildI g bg f 0 [[(g.R.length,0)]] []
end Gz
theorem rulesI_len(g:Gz)(s:Nat):(g.rulesI s).length≤g.R.length:=by unfold Gz.rulesI;rw[lM];exact ofL_len g s
theorem rulesI_mem{g:Gz}{s:Nat}{x:It}(h:x∈g.rulesI s):x.1<g.R.length∧x.2=0:=by unfold Gz.rulesI at h;obtain⟨k,hk,rfl⟩:=List.mem_map.1 h;unfold Gz.ofL at hk;have:=List.mem_range.1 (List.mem_filter.1 hk).1;exact⟨this,rfl⟩
theorem begQ_mem{g:Gz}:∀(f:Nat) (todo M:List Nat) (all r:List It),(∀x∈all,x.1<g.R.length∧x.2=0)→g.begQ f todo M all=some r→r.length≤300∧∀x∈r,x.1<g.R.length∧x.2=0
 | 0,_,_,_,r,_,h=>by simp[Gz.begQ]at h
 | f+1,[],M,all,r,ha,h=>by
  unfold Gz.begQ at h;split at h
  ·cases h
  ·cases h;exact⟨by omega,ha⟩
 | f+1,s::todo,M,all,r,ha,h=>by
  unfold Gz.begQ at h;split at h
  ·cases h
  ·refine begQ_mem f _ _ _ r (fun x hx=>?_) h
   rcases mA.1 hx with h1|h1
   ·exact ha x h1
   ·exact rulesI_mem h1
theorem begAll_mem{g:Gz}:∀(k:Nat) (l:List (List It)),g.begAll k=some l→l.length=k∧∀r∈l,r.length≤300∧∀x∈r,x.1≤g.R.length∧x.2≤9000
 | 0,l,h=>by
  unfold Gz.begAll at h;cases h
  exact⟨rfl,fun r hr=>by cases hr⟩
 | k+1,l,h=>by
  unfold Gz.begAll at h;cases hq:g.begAll k with
  | none=>rw[hq]at h;cases h
  | some l0=>
   rw[hq]at h;obtain⟨h1,h2⟩:=begAll_mem k l0 hq;simp only at h;split at h
   ·cases h
    refine⟨by simp[h1],fun r hr=>?_⟩;rcases mA.1 hr with h3|h3
    ·exact h2 r h3
    ·rw[mS.1 h3]
     exact⟨by simp,fun x hx=>by cases hx⟩
   ·cases hb:g.begQ Gz.begFuel [k] [k] [] with
    | none=>rw[hb]at h;cases h
    | some r0=>
     rw[hb]at h;cases h
     have hm:=begQ_mem _ _ _ _ _ (fun x hx=>by cases hx) hb;refine⟨by simp[h1],fun r hr=>?_⟩;rcases mA.1 hr with h3|h3
     ·exact h2 r h3
     ·rw[mS.1 h3]
      exact⟨hm.1,fun x hx=>by have:=hm.2 x hx;omega⟩
theorem begAll_succ{g:Gz}{k:Nat}{l:List (List It)}(h:g.begAll (k+1)=some l)(hk:g.nt<k):∃l0 r,g.begAll k=some l0∧g.begQ Gz.begFuel [k] [k] []=some r∧l=l0++[r]:=by
 unfold Gz.begAll at h;cases hq:g.begAll k with
 | none=>rw[hq]at h;cases h
 | some l0=>
  rw[hq]at h;simp only at h;rw[if_neg (by omega)]at h;cases hb:g.begQ Gz.begFuel [k] [k] [] with
  | none=>rw[hb]at h;cases h
  | some r0=>
   rw[hb]at h;cases h
   exact⟨l0,r0,rfl,rfl,rfl⟩
theorem begAll_low{g:Gz}:∀k,k≤g.nt+1→g.begAll k=some (List.replicate k [])
 | 0,_=>rfl
 | k+1,hk=>by unfold Gz.begAll;rw[begAll_low k (by omega)];simp only;rw[if_pos (by omega),List.replicate_succ']
theorem begAll_some{g:Gz}:∀(n k:Nat) (l:List (List It)),k≤n→g.begAll n=some l→g.begAll k=some (l.take k)
 | 0,k,l,hk,h=>by
  obtain rfl:k=0:=by omega
  simp[Gz.begAll]
 | n+1,k,l,hk,h=>by
  by_cases hkn:k=n+1
  ·subst hkn
   have:=(begAll_mem _ _ h).1;rw[tkL (by omega)];exact h
  ·have h0:=h
   unfold Gz.begAll at h;cases hq:g.begAll n with
   | none=>rw[hq]at h;cases h
   | some l0=>
    rw[hq]at h;have hl0:=(begAll_mem _ _ hq).1;have hr:=begAll_some n k l0 (by omega) hq;have:∃r,l=l0++[r]:=by
     simp only at h;split at h
     ·cases h;exact⟨_,rfl⟩
     ·split at h
      ·cases h
      ·cases h;exact⟨_,rfl⟩
    obtain⟨r,rfl⟩:=this;rw[hr,List.take_append_of_le_length (by omega)]
end Go.Proofs.YthaacmablcpdfaaGreatDoor
