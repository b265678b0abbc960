/- Lists and grammars as they lie. -/
import Derived.Test.YthaacmablcpdfaaGreatDoorZab
import Derived.Test.YthaacmablcpdfaaGreatDoorZac
import Derived.Test.YthaacmablcpdfaaGreatDoorNm
namespace Go.Proofs.YthaacmablcpdfaaGreatDoor
open Go.RowKit
set_option linter.unusedVariables false
def StrV(s:ByteArray):Value:=.string s
def IntV(n:Int):Value:=.int .i64 n
def RuV(r:Ru):Value:=.agg #[.int .i64 r.left,r.v]
def Says(w:World)(b:Bool)(e:Ending)(w':World):Prop:=e=.returned (.bool b)∧Below w.heap.size w w'
structure Arr{α:Type}(E:α→Value)(w:World)(v:Value)(l:List α):Prop where
 lies:∃A c,v=.slice A l.length c∧∀k x,l[k]?=some x→∃b off,A=some ⟨b,off,none⟩∧b<w.heap.size∧w.cell? ⟨b,off+k,none⟩=some (E x)
 short:l.length≤4611686018427387904
 room:∀A n c,v=.slice A n c→n≤c∧(A=none→c=0)
theorem Arr.later{α:Type}{E:α→Value}{w w':World}{v:Value}{l:List α}(h:Arr E w v l)(hb:Below w.heap.size w w'):Arr E w' v l:=by obtain⟨⟨A,c,hv,hc⟩,hs,hro⟩:=h;refine⟨⟨A,c,hv,fun k x hx=>?_⟩,hs,hro⟩;obtain⟨b,off,hA,hlt,hcell⟩:=hc k x hx;exact⟨b,off,hA,ltL hlt hb.size,(hb.cell (p:=⟨b,off+k,none⟩) hlt).trans hcell⟩
theorem Arr.nil{α:Type}{E:α→Value}(w:World)(A:Option Addr)(c:Nat)(h:A=none→c=0):Arr E w (.slice A 0 c) []:=⟨⟨A,c,rfl,fun k x h=>by simp at h⟩,by simp,fun _ _ _ e=>by cases e;exact⟨zeL _,h⟩⟩
theorem Arr.src{α:Type}{E:α→Value}{w:World}{v:Value}{l:List α}(h:Arr E w v l)(h1:∀x,(E x).oneCell'=true):SrcOK w v l.length 1 (l.map E):=by
 obtain⟨⟨A,c,hv,hc⟩,hs,hro⟩:=h;refine⟨fun u hu=>?_,?_⟩
 ·obtain⟨x,_,rfl⟩:=List.mem_map.1 hu
  exact h1 x
 ·cases A with
  | none=>
   left;have hl:l=[]:=by
    cases l with
    | nil=>rfl
    | cons x r=>obtain⟨b,off,hA,_⟩:=hc 0 x rfl;cases hA
   have h0:=(hro _ _ _ hv).2 rfl;subst hl h0;exact⟨hv,rfl,rfl⟩
  | some ad=>
   right;refine⟨ad,c,hv,by simp,fun j u hu=>?_⟩;rw[pG]at hu;obtain⟨x,hx,rfl⟩:=Option.map_eq_some_iff.1 hu;obtain⟨b,off,hA,_,hcell⟩:=hc j x hx;cases hA
   have hadd:(⟨b,off,none⟩:Addr).add j=⟨b,off+j,none⟩:=by
    unfold Addr.add;split
    ·rename_i h0;simp_all
    ·rfl
   rw[hadd];exact hcell
structure Rul(w:World)(v:Value)(l:List Ru):Prop where
 lies:∃A c,v=.slice A l.length c∧∀k r,l[k]?=some r→∃b off,A=some ⟨b,off,none⟩∧b<w.heap.size∧w.cell? ⟨b,off+k*2,none⟩=some (.int .i64 r.left)∧w.cell? ⟨b,off+k*2+1,none⟩=some r.v∧Arr IntV w r.v r.right
 short:l.length≤4611686018427387904
 room:∀A n c,v=.slice A n c→n≤c∧(A=none→c=0)
theorem Rul.later{w w':World}{v:Value}{l:List Ru}(h:Rul w v l)(hb:Below w.heap.size w w'):Rul w' v l:=by obtain⟨⟨A,c,hv,hc⟩,hs,hro⟩:=h;refine⟨⟨A,c,hv,fun k r hr=>?_⟩,hs,hro⟩;obtain⟨b,off,hA,hlt,h1,h2,h3⟩:=hc k r hr;exact⟨b,off,hA,ltL hlt hb.size,(hb.cell (p:=⟨b,off+k*2,none⟩) hlt).trans h1,(hb.cell (p:=⟨b,off+k*2+1,none⟩) hlt).trans h2,h3.later hb⟩
theorem Rul.take{w:World}{A:Option Addr}{n c:Nat}{l:List Ru}(h:Rul w (.slice A n c) l)(k:Nat)(hk:k≤n)(c':Nat)(hc':k≤c'∧(A=none→c'=0)):Rul w (.slice A k c') (l.take k):=by
 obtain⟨⟨A',c1,hv,hc⟩,hs⟩:=h;cases hv
 refine⟨⟨A,c',by rw[List.length_take,Nat.min_eq_left hk],fun i x hx=>?_⟩,by rw[List.length_take];omega,fun _ _ _ e=>by cases e;exact hc'⟩;rw[List.getElem?_take]at hx;split at hx
 ·exact hc i x hx
 ·cases hx
theorem Rul.mem{w:World}{v:Value}{l:List Ru}(h:Rul w v l){r:Ru}(hr:r∈l):Arr IntV w r.v r.right:=by obtain⟨⟨A,c,hv,hc⟩,hs⟩:=h;obtain⟨k,hk,he⟩:=List.mem_iff_getElem.1 hr;exact(hc k r (by rw[←he];exact eG hk)).elim fun _ ⟨_,_,_,_,_,h3⟩=>h3
structure GrR(w:World)(v:Value)(g:Gm):Prop where
 lies:∃vT vN vR,v=.agg #[vT,vN,vR,.int .i64 g.s]∧Arr StrV w vT g.T∧Arr StrV w vN g.N∧Rul w vR g.R
 small:g.small
theorem GrR.later{w w':World}{v:Value}{g:Gm}(h:GrR w v g)(hb:Below w.heap.size w w'):GrR w' v g:=by obtain⟨⟨vT,vN,vR,hv,h1,h2,h3⟩,hs⟩:=h;exact⟨⟨vT,vN,vR,hv,h1.later hb,h2.later hb,h3.later hb⟩,hs⟩
structure RuR(w:World)(v:Value)(r:Ru):Prop where
 lies:v=RuV r
 right:Arr IntV w r.v r.right
def idxL{α:Type}(p:α→Bool)(l:List α):Int:=if l.any p then(l.findIdx p:Nat) else -1
theorem idxL_hit{α:Type}{p:α→Bool}{l:List α}{k:Nat}{x:α}(hx:l[k]?=some x)(hp:p x=true)(hA:∀j y,j<k→l[j]?=some y→p y=false):idxL p l=k:=by obtain⟨hk,rfl⟩:=sG.1 hx;unfold idxL;rw[if_pos (List.any_eq_true.2 ⟨_,List.getElem_mem hk,hp⟩)];congr 1;rw[List.findIdx_eq hk];exact⟨hp,fun j hj=>hA j _ hj (eG (by omega))⟩
theorem idxL_miss{α:Type}{p:α→Bool}{l:List α}(hA:∀j y,j<l.length→l[j]?=some y→p y=false):idxL p l = -1:=by unfold idxL;rw[if_neg];rw[List.any_eq_true];rintro⟨x,hx,hp⟩;obtain⟨k,hk,he⟩:=List.mem_iff_getElem.1 hx;rw[hA k x hk (by rw[←he];exact eG hk)]at hp;cases hp
theorem idxL_any{α:Type}(p:α→Bool)(l:List α):decide (0≤idxL p l)=l.any p:=by
 unfold idxL;cases h:l.any p with
 | true=>rw[if_pos rfl,decide_eq_true_eq];omega
 | false=>rw[if_neg (by simp),decide_eq_false_iff_not];omega
theorem below_alloc(w:World)(o:Obj):Below w.heap.size w (w.alloc o):=(Below.refl _ w).alloc (leR _) o
theorem below_alloc_trans{w w':World}{o:Obj}(h:Below (w.alloc o).heap.size (w.alloc o) w'):Below w.heap.size w w':=
 ((Below.refl _ w).alloc (leR _) o).trans (h.mono (by simp))
theorem all_not_any{α:Type}(p:α→Bool)(l:List α):(!l.any fun x=>!p x)=l.all p:=by rw[List.all_eq_not_any_not]
end Go.Proofs.YthaacmablcpdfaaGreatDoor
