/- What the making of lookaheads comes to. -/
import Derived.Test.YthaacmablcpdfaaGreatDoorZax
import Derived.Test.YthaacmablcpdfaaGreatDoorZbu
import Derived.Test.YthaacmablcpdfaaGreatDoorNm
namespace Go.Proofs.YthaacmablcpdfaaGreatDoor
open Go.RowKit
set_option linter.unusedVariables false
set_option maxRecDepth 1000000
theorem pz_lkIn:LkIn pz pzL pzE 1000 1000 pzEm pzC pzT pzCC 291 pzFF pzD pzA where
 first:=pz_first
 tails:=pz_tails
 comes:=pz_comes
 edges:=pz_edges
 spread:=pz_spread
 items:=fun K hK x hx=>by
  have h:(pzL.all fun K=>K.all fun x=>decide (x.1≤pz.R.length)&&decide (x.2≤1000000))=true:=by decide +kernel
  have h2:=List.all_eq_true.1 (List.all_eq_true.1 h K hK) x hx;simp only[Bool.and_eq_true,decide_eq_true_eq]at h2;exact h2
 some_:=by decide +kernel
 few:=by decide +kernel
 rules:=fun F hF=>by
  have h:(pzFF.all fun F=>decide (F.length≤100000)&&F.all fun f=>decide (f.1≤pz.R.length)&&decide (f.2<291))=true:=by decide +kernel
  have h2:=List.all_eq_true.1 h F hF;simp only[Bool.and_eq_true,decide_eq_true_eq]at h2;refine⟨h2.1,fun f hf=>?_⟩;have h3:=List.all_eq_true.1 h2.2 f hf;simp only[Bool.and_eq_true,decide_eq_true_eq]at h3;exact h3
 fit:=fun e he=>by have h4:=List.all_eq_true.1 pz_fit e he;simp only[Bool.and_eq_true,decide_eq_true_eq]at h4;exact h4.1
def pzK:List (List (Nat×Nat)):=[[],[(68,71932309490)],[(73,71932309494)],[(69,71932309490)],[],[(97,202953969694)],[],[],[],[],[],[],[],[],[],[(97,202953969694)],[],[(97,202953969694)],[(97,202953969694)],[],[(97,202953969694)],[],[(104,1)],[],[(1,32)],[(4,1568)],[(5,71923935200)],[(8,71923935200)],[(10,71923937248)],[(13,71923937248)],[(17,71932309488)],[(18,71932309488)],[(19,71932309488)],[(20,71932309488)],[(21,71932309488)],[(22,71932309488)],[(15,71923937248)],[(16,71932309488)],[(12,71923937248)],[(67,71923937248)],[(65,71923937248)],[(71,71932309494)],[(81,71932309494)],[(83,71932309494)],[],[(82,71932309494)],[(84,71932309494)],[(94,549755810110)],[],[(96,549755810078)],[],[(85,71932309494)],[(87,71932309494)],[(89,71932309494)],[(92,71932309494)],[(93,71932309494)],[(86,71932309494)],[(88,71932309494)],[(90,71932309494)],[(91,71932309494)],[],[(97,274877906944)],[],[],[(97,274877906944)],[],[(9,71923935200)],[(0,1)],[(99,274877903166)],[(98,274877903166)],[(2,32)],[(97,202953969694)],[(97,202953969694)],[(97,65515016222)],[(14,71923937248)],[(79,71932309488)],[(77,71932309490)],[(66,71923937248)],[(75,71932309490)],[(70,71932309490)],[(74,71932309494)],[(64,71923937248)],[(72,71932309494)],[(97,65506643968)],[(23,71932309488)],[(95,549755810110)],[(27,71923935008)],[(24,71923933440)],[(97,202953969694)],[],[(97,202953969694)],[(56,71932309488)],[(57,71932309488)],[(97,268435456)],[(28,71932309488)],[(96,274877906944),(103,268435456)],[],[],[(61,71932309488)],[(3,1568)],[],[],[],[(80,71932309488)],[(78,71932309490)],[(76,71932309490)],[(63,71923937248)],[],[(101,274877903134)],[(97,274877903134)],[(25,71923933440)],[],[(97,2147487746)],[],[(102,268435456)],[],[(29,71932309488)],[(6,71923935200)],[(7,71923935200)],[(11,71923937248)],[(59,71923937248)],[(58,71923937248)],[(100,274877903134)],[(26,71923935008)],[(97,202953969694)],[(97,202953969694)],[(52,71932309488)],[],[],[(62,71932309488)],[(33,546)],[],[(103,268435456)],[],[(60,71923937248)],[(55,134217728)],[],[(51,71932309488)],[(49,10240)],[],[(36,71932309488)],[],[],[(38,2147483648)],[(40,2147487746)],[],[(32,546)],[],[(30,71932309488)],[(97,202953969694)],[],[(35,71932309488)],[(34,71932309488)],[(37,2147483648)],[(39,2147487746)],[],[(97,205101453598)],[(31,71932309488)],[(53,134217728)],[(97,205101453598)],[(50,10240)],[(42,2147483648)],[(41,2147483648)],[(54,134217728)],[(44,2147483648)],[(43,2147483648)],[(97,2147487746)],[(97,2147487746)],[(97,2147487746)],[(97,2147487746)],[(46,2147487746)],[(45,2147487746)],[(48,2147487746)],[(47,2147487746)]]
theorem pz_looks:pz.looksAll pzA pzL (Gz.bases pzL 0) pzFF=pzK:=by decide +kernel
theorem getD_le{α:Type}{l:List (List α)}{n:Nat}(h:(l.all fun x=>decide (x.length≤n))=true)(i:Nat):(l.getD i []).length≤n:=by
 rw[dG];cases hx:l[i]? with
 | none=>simp
 | some x=>have:=List.all_eq_true.1 h x (mG hx);simpa using this
theorem pz_sz:Sz pz pzL pzE pzK where
 l:=by decide +kernel
 e:=by decide +kernel
 k:=by decide +kernel
 es:=getD_le (by decide +kernel)
 ks:=getD_le (by decide +kernel)
 nt:=by decide
end Go.Proofs.YthaacmablcpdfaaGreatDoor
