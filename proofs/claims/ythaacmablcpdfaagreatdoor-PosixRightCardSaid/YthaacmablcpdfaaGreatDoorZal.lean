/- A grammar of the program's. -/
import Derived.Test.YthaacmablcpdfaaGreatDoorZaf
import Derived.Test.YthaacmablcpdfaaGreatDoorZak
import Derived.Test.YthaacmablcpdfaaGreatDoorNm
namespace Go.Proofs.YthaacmablcpdfaaGreatDoor
open Go.RowKit
set_option linter.unusedVariables false
def PG.of(g:Gm):PG:=⟨g.T.map (·.data.toList),g.N.map (·.data.toList),g.s.toNat,g.R.map fun r=>(r.left.toNat,r.right.map Int.toNat)⟩
theorem check_all{g:Gm}(h:g.check=0):g.few=true∧g.form=true∧g.once=true∧g.known=true∧g.unlike=true∧g.each=true:=by
 unfold Gm.check at h;by_cases h1:g.few=true
 ·by_cases h2:g.form=true
  ·by_cases h3:g.once=true
   ·by_cases h4:g.known=true
    ·by_cases h5:g.unlike=true
     ·by_cases h6:g.each=true
      ·exact⟨h1,h2,h3,h4,h5,h6⟩
      ·rw[if_pos h1,if_pos h2,if_pos h3,if_pos h4,if_pos h5,if_neg h6]at h;omega
     ·rw[if_pos h1,if_pos h2,if_pos h3,if_pos h4,if_neg h5]at h;omega
    ·rw[if_pos h1,if_pos h2,if_pos h3,if_neg h4]at h;omega
   ·rw[if_pos h1,if_pos h2,if_neg h3]at h;omega
  ·rw[if_pos h1,if_neg h2]at h;omega
 ·rw[if_neg h1]at h;omega
theorem check_of{g:Gm}(h1:g.few=true)(h2:g.form=true)(h3:g.once=true)(h4:g.known=true)(h5:g.unlike=true)(h6:g.each=true):g.check=0:=by unfold Gm.check;rw[if_pos h1,if_pos h2,if_pos h3,if_pos h4,if_pos h5,if_pos h6]
theorem findIdx_map{α β:Type}(f:α→β)(p:β→Bool):∀l:List α,(l.map f).findIdx p=l.findIdx (fun x=>p (f x))
 | []=>rfl
 | a::l=>by rw[List.map_cons,List.findIdx_cons,List.findIdx_cons,findIdx_map f p l]
theorem known_left{g:Gm}(h:g.known=true){r:Ru}(hr:r∈g.R):((g.T.length:Int)<r.left∧r.left≤(g.T.length:Int)+(g.N.length:Int))∧∀s∈r.right,1≤s∧s≤(g.T.length:Int)+(g.N.length:Int):=by unfold Gm.known at h;rw[Bool.and_eq_true]at h;have h2:=List.all_eq_true.1 h.2 r hr;unfold Gm.knownR at h2;rw[Bool.and_eq_true]at h2;obtain⟨h3,h4⟩:=h2;unfold Gm.non at h3;rw[Bool.and_eq_true,decide_eq_true_eq,decide_eq_true_eq]at h3;refine⟨h3,fun s hs=>?_⟩;have h5:=List.all_eq_true.1 h4 s hs;unfold Gm.sym Gm.term Gm.non at h5;simp only[Bool.or_eq_true,Bool.and_eq_true,decide_eq_true_eq]at h5;omega
theorem known_start{g:Gm}(h:g.known=true):(g.T.length:Int)<g.s∧g.s≤(g.T.length:Int)+(g.N.length:Int):=by unfold Gm.known at h;rw[Bool.and_eq_true]at h;have h3:=h.1;unfold Gm.non at h3;rw[Bool.and_eq_true,decide_eq_true_eq,decide_eq_true_eq]at h3;exact h3
theorem first_of{g:Gm}(h:g.known=true)(i:Nat):(PG.of g).R.findIdx (fun r=>r.1==(PG.of g).T.length+1+i)=g.first i:=by
 unfold PG.of Gm.first;simp only[lM];rw[findIdx_map];refine findIdx_same fun r hr=>?_
 have:=(known_left h hr).1.1;unfold Gm.left;rw[Bool.eq_iff_iff,beq_iff_eq,beq_iff_eq];omega
def Gm.ofP(g:PG)(l:List Ru):Gm:=⟨g.T.map str,g.N.map str,g.s,l⟩
def Like(g:PG)(l:List Ru):Prop:=(l.map fun r=>(r.left.toNat,r.right.map Int.toNat))=g.R∧∀r∈l,0≤r.left∧∀s∈r.right,0≤s
theorem PG.of_ofP{g:PG}{l:List Ru}(h:Like g l):PG.of (Gm.ofP g l)=g:=by
 have e:∀L:List Nme,(L.map str).map (·.data.toList)=L:=by intro L;rw[List.map_map];exact(List.map_congr_left (fun a _=>data_str a)).trans (List.map_id L)
 unfold PG.of Gm.ofP;simp only[e,h.1];rfl
theorem str_injective{a b:Nme}(h:str a=str b):a=b:=by rw[←data_str a,h,data_str]
open Classical in
theorem check_ofP{g:PG}{l:List Ru}(hg:g.Good)(h:Like g l):(Gm.ofP g l).check=0∧(Gm.ofP g l).ordered=true:=by
 obtain⟨hl,hpos⟩:=h;have hT:(Gm.ofP g l).T.length=g.T.length:=lM ..;have hN:(Gm.ofP g l).N.length=g.N.length:=lM ..;have hlen:l.length=g.R.length:=by rw[←hl,lM]
 have hmem:∀r∈l,(r.left.toNat,r.right.map Int.toNat)∈g.R:=fun r hr=>by rw[←hl];exact List.mem_map_of_mem (f:=fun r:Ru=>(r.left.toNat,r.right.map Int.toNat)) hr
 have hkn:∀r∈l,((g.T.length:Int)<r.left∧r.left≤(g.T.length:Int)+(g.N.length:Int))∧∀s∈r.right,1≤s∧s≤(g.T.length:Int)+(g.N.length:Int):=by intro r hr;obtain⟨⟨k1,k2⟩,k3⟩:=hg.g9 _ (hmem r hr);have hp:=hpos r hr;simp only at k1 k2 k3;refine⟨by omega,fun s hs=>?_⟩;have:=k3 s.toNat (List.mem_map_of_mem hs);have:=hp.2 s hs;omega
 have hknown:(Gm.ofP g l).known=true:=by
  unfold Gm.known;rw[Bool.and_eq_true];refine⟨?_,List.all_eq_true.2 fun r hr=>?_⟩
  ·have:=hg.g8
   unfold Gm.non;rw[hT,hN,Bool.and_eq_true,decide_eq_true_eq,decide_eq_true_eq];show (g.T.length:Int)<(g.s:Int)∧(g.s:Int)≤_;omega
  ·obtain⟨k1,k2⟩:=hkn r hr
   unfold Gm.knownR;rw[Bool.and_eq_true];refine⟨?_,List.all_eq_true.2 fun s hs=>?_⟩
   ·unfold Gm.non
    rw[hT,hN,Bool.and_eq_true,decide_eq_true_eq,decide_eq_true_eq];exact k1
   ·unfold Gm.sym Gm.term Gm.non
    rw[hT,hN];simp only[Bool.or_eq_true,Bool.and_eq_true,decide_eq_true_eq];have:=k2 s hs;omega
 have hfirst:∀i,(Gm.ofP g l).first i=g.R.findIdx (fun r=>r.1==g.T.length+1+i):=by intro i;have:=first_of hknown i;rw[←this,PG.of_ofP ⟨hl,hpos⟩]
 refine⟨check_of ?_ ?_ ?_ hknown ?_ ?_,?_⟩
 ·unfold Gm.few
  simp only[Bool.and_eq_true,decide_eq_true_eq];refine⟨⟨by rw[hT];exact hg.g1,by rw[hN];exact hg.g2⟩,by show l.length≤300;rw[hlen];exact hg.g3,List.all_eq_true.2 fun r hr=>?_⟩;have:=hg.g4 _ (hmem r hr);unfold shortR;simpa using this
 ·unfold Gm.form
  rw[Bool.and_eq_true];refine⟨List.all_eq_true.2 fun s hs=>?_,List.all_eq_true.2 fun s hs=>?_⟩
  ·obtain⟨t,ht,rfl⟩:=List.mem_map.1 hs
   unfold okT;rw[data_str];exact hg.g5 t ht
  ·obtain⟨t,ht,rfl⟩:=List.mem_map.1 hs
   unfold okN;rw[data_str];exact hg.g6 t ht
 ·unfold Gm.once
  rw[decide_eq_true_eq];show (g.T.map str++g.N.map str).Nodup;rw[←mpA];exact List.pairwise_map.2 (List.Pairwise.imp (fun hne e=>hne (str_injective e)) hg.g7)
 ·unfold Gm.unlike
  refine decide_eq_true ?_;intro i j x r hji hx hr;have hnd:=List.pairwise_iff_getElem.1 hg.g10;obtain⟨hj,ex⟩:=sG.1 hx;obtain⟨hi,er⟩:=sG.1 hr;have hj':j<l.length:=hj;have hi':i<l.length:=hi;have hne:=hnd j i (by omega) (by omega) hji;have e1:g.R[j]'(by omega)=(x.left.toNat,x.right.map Int.toNat):=by
   have:g.R[j]?=some (x.left.toNat,x.right.map Int.toNat):=by rw[←hl,pG,show l[j]?=some x from hx];rfl
   exact(sG.1 this).2
  have e2:g.R[i]'(by omega)=(r.left.toNat,r.right.map Int.toNat):=by
   have:g.R[i]?=some (r.left.toNat,r.right.map Int.toNat):=by rw[←hl,pG,show l[i]?=some r from hr];rfl
   exact(sG.1 this).2
  rw[e1,e2]at hne;cases hs:sameR x r with
  | false=>rfl
  | true=>exfalso;unfold sameR at hs;rw[Bool.and_eq_true,beq_iff_eq,beq_iff_eq]at hs;exact hne (by rw[hs.1,hs.2])
 ·unfold Gm.each
  refine List.all_eq_true.2 fun i hi=>?_
  rw[hN]at hi;obtain⟨q,hq,he⟩:=hg.g11 i (List.mem_range.1 hi);rw[←hl]at hq;obtain⟨r,hr,rfl⟩:=List.mem_map.1 hq;refine List.any_eq_true.2 ⟨r,hr,?_⟩;unfold Gm.left;rw[hT,beq_iff_eq];have:=(hpos r hr).1;simp only at he;omega
 ·unfold Gm.ordered
  refine decide_eq_true ?_;intro i x y hx hy;have hget:∀k z,(Gm.ofP g l).firsts[k]?=some z→k<g.N.length∧z=(((Gm.ofP g l).first k:Nat):Int):=by intro k z hz;unfold Gm.firsts at hz;rw[pG]at hz;obtain⟨m,hm,rfl⟩:=Option.map_eq_some_iff.1 hz;obtain⟨hk,e⟩:=sG.1 hm;rw[List.getElem_range]at e;subst e;rw[List.length_range,hN]at hk;exact⟨hk,rfl⟩
  obtain⟨k1,rfl⟩:=hget i x hx;obtain⟨k2,rfl⟩:=hget (i+1) y hy;have:=hg.g12 i (i+1) (by omega) k2;rw[hfirst,hfirst];omega
end Go.Proofs.YthaacmablcpdfaaGreatDoor
