/- . -/
import Derived.Test.YtendpobbjjaopaaGreatDoorXac
import Derived.Lib.LaidU8
import Derived.Lay
import Derived.ChangeArms
import Derived.Shelf.Vars
import Derived.Test.YtendpobbjjaopaaGreatDoorXnm
set_option linter.all false
set_option maxRecDepth 100000
set_option maxHeartbeats 16000000
namespace Go.Proofs.YtendpobbjjaopaaGreatDoor
open Go.RowKit
open Option renaming some→oM
variable{W:World}
def Vf{n:String}{g T:Nat}{L:List (List UInt8)}(hr:Lib.VarReads Tryz.prog W n (.agg (L.map fun l=>.lit (.string l))))(j:Tryz.prog.globalNamed n=oM g)
  (ht:(Tryz.prog.globals[g]?).map (·.type)=oM T) (hu:Tryz.prog.underlying T=oM (.array L.length 9)) (hc:Tryz.prog.cellsOf 9=1):∀k (h:k<L.length),W.cell? (g,k)=oM (.string (bs L[k])):=by
 intro k o;obtain⟨U,t',C,a3,a5,I,J,P,R⟩:=hr;obtain rfl:g=U:=Option.some.inj (j.symm.trans I);obtain rfl:T=t':=Option.some.inj (ht.symm.trans J);obtain⟨a4,d,q,i,p⟩:=Lib.array_elem hu R k o;rw[hc,Nat.mul_one]at p;obtain⟨s,hs,t,_⟩:=DataW.trod_string Tryz.underlying9 p;have a1:d=.lit (.string L[k]):=by rw[pG,eG o]at i;exact(Option.some.inj i).symm
 have a2:s=bs L[k]:=by rw[a1]at t;have h1:L[k]=s.data.toList:=Lit.string.inj (DataW.lit.inj (congrArg Prod.fst t));unfold bs;rw[h1,Array.toArray_toList]
 have a0:=World.var?_cell j P k;rw[a0,<-a2];have:C.toList[k]?=oM (.string s):=by have:=congrArg (·[0]?) hs;simpa using this
 simpa using this
def eB{l:List (String×DataW Unit)}(j:l=[("conch/oper.texts",.agg (CB.map fun l=>.lit (.string l))),("conch/posix.reserved",.agg (Co.map fun l=>.lit (.string l)))])(h:laidMetH Tryz.prog l W):D9 W:=by subst j;have i:laidMet Tryz.prog [("conch/oper.texts",.agg (CB.map fun l=>.lit (.string l))),("conch/posix.reserved",.agg (Co.map fun l=>.lit (.string l)))] W:=h;exact⟨Vf (T:=100) (Lib.laidMet.reads i (.head _)) nZ nZ nZ nZ,Vf (T:=103) (Lib.laidMet.reads i (.tail _ (.head _))) nZ nZ nZ nZ⟩
