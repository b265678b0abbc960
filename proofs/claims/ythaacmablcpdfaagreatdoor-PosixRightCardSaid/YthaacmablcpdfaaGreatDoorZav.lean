/- What steps makes. -/
import Derived.Test.YthaacmablcpdfaaGreatDoorZat
import Derived.Test.YthaacmablcpdfaaGreatDoorZau
import Derived.Test.YthaacmablcpdfaaGreatDoorNm
namespace Go.Proofs.YthaacmablcpdfaaGreatDoor
open Go.RowKit
set_option linter.unusedVariables false
set_option maxRecDepth 100000
namespace Gz
def stepA(g:Gz)(bg:List (List It))(p:List (List It)×List Nat)(x:It):List (List It)×List Nat:=
 let s:=g.next x
 if s∈p.2∨g.non s=false then(moveI g p.1 x,p.2) else((bg.getD s []).foldl (moveI g) (moveI g p.1 x),s::p.2)
def stepsI(g:Gz)(bg:List (List It))(l:List It):List (List It):=((l.foldl (g.stepA bg) (List.replicate (g.top+1) [],[])).1).map orderL
end Gz
def Short(m:Nat)(R:List (List It)):Prop:=∀l∈R,l.length≤m
theorem Short.move{m:Nat}{R:List (List It)}(h:Short m R)(g:Gz)(x:It):Short (m+1) (moveI g R x):=by
 unfold moveI;split
 ·exact fun l hl=>Nat.le_succ_of_le (h l hl)
 ·intro l hl
  obtain⟨i,hi⟩:=List.mem_iff_getElem?.1 hl;unfold addI at hi;rw[List.getElem?_modify]at hi;cases hq:R[i]? with
  | none=>rw[hq]at hi;cases hi
  | some r=>
   rw[hq]at hi;have hr:=h r (mG hq);simp only[Option.map_eq_map,Option.map_some,Option.some.injEq]at hi;subst hi;split
   ·simp;exact hr
   ·omega
theorem Short.moves{m:Nat}{R:List (List It)}(h:Short m R)(g:Gz):∀l:List It,Short (m+l.length) (l.foldl (moveI g) R)
 | []=>h
 | x::l=>by have:=Short.moves (h.move g x) g l;rw[List.foldl_cons,List.length_cons,show m+(l.length+1)=m+1+l.length by omega];exact this
end Go.Proofs.YthaacmablcpdfaaGreatDoor
