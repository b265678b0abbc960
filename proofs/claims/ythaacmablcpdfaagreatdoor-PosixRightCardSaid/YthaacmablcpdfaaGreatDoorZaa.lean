/- What a call keeps of memory. -/
import Derived.WalkKit
import Derived.Laws.OwnMore
import Derived.Laws.Rows
import Derived.Deep.Draws
import Derived.Lib.Hide
import Derived.Test.YthaacmablcpdfaaGreatDoorNm
namespace Go.Proofs.YthaacmablcpdfaaGreatDoor
open Go.RowKit
set_option linter.unusedVariables false
structure Keeps(B:Nat)(T:List TypeId)(w w':World):Prop where
 os:w'.os=w.os
 tape:w'.tape=w.tape
 output:w'.output=w.output
 size:w.heap.size≤w'.heap.size
 block:∀k,k<w.heap.size→(k<B∨∀cs t m,w.heap[k]?=some (.cells cs t m)→t ∉ T)→w'.heap[k]?=w.heap[k]?
def Blk(w:World)(g:Nat)(t:TypeId)(cs:Array Value):Prop:=w.heap[g]?=some (.cells cs t (0,0))
namespace Keeps
variable {B B':Nat} {T T':List TypeId} {a w w' w'':World}
theorem refl(B:Nat)(T:List TypeId)(w:World):Keeps B T w w:=⟨rfl,rfl,rfl,leR _,fun _ _ _=>rfl⟩
theorem trans(h:Keeps B T w w')(k:Keeps B T w' w''):Keeps B T w w'':=
 ⟨k.os.trans h.os,k.tape.trans h.tape,k.output.trans h.output,leT h.size k.size,fun i hi hc=>by
  have e:=h.block i hi hc;have h2:i<B∨∀cs t m,w'.heap[i]?=some (.cells cs t m)→t ∉ T:=by
   rcases hc with hc|hc
   ·exact .inl hc
   ·exact .inr fun cs t m hh=>hc cs t m (e▸hh)
  exact(k.block i (ltL hi h.size) h2).trans e⟩
theorem mono(h:Keeps B T w w')(hB:B'≤B)(hT:∀t,t∈T→t∈T'):Keeps B' T' w w':=
 ⟨h.os,h.tape,h.output,h.size,fun i hi hc=>h.block i hi (by
  rcases hc with hc|hc
  ·exact .inl (by omega)
  ·exact .inr fun cs t m hh ht=>hc cs t m hh (hT t ht))⟩
theorem of_below(h:Below w.heap.size w w'):Keeps B T w w':=⟨h.os,h.tape,h.output,h.size,fun i hi _=>h.block i hi⟩
theorem below(h:Keeps B T w w')(hB:B≤w.heap.size):Below B w w':=
 ⟨h.os,h.tape,h.output,h.size,fun i hi=>h.block i (by omega) (.inl hi)⟩
theorem drew(h:Keeps B T a w):Keeps B T a w.drew:=⟨h.os,h.tape,h.output,h.size,h.block⟩
theorem drewN(h:Keeps B T a w)(n:Nat):Keeps B T a (w.drewN n):=⟨h.os,h.tape,h.output,h.size,h.block⟩
theorem alloc(h:Keeps B T a w)(o:Obj):Keeps B T a (w.alloc o):=
 h.trans (of_below ⟨rfl,rfl,rfl,by simp,fun k hk=>Below.heap_alloc _ _ _ hk⟩)
theorem setCell(h:Keeps B T a w){p:Addr}{cs:Array Value}{t:TypeId}{m:Nat×Nat}(hb:w.heap[p.block]?=some (.cells cs t m))(hB:B≤p.block)(ht:t∈T)(u:Value):Keeps B T a (w.setCell p u):=
 h.trans ⟨rfl,rfl,rfl,by simp[World.setCell],fun k hk hc=>Below.heap_setCell _ _ _ _ (by
  rintro rfl;rcases hc with hc|hc
  ·omega
  ·exact hc _ _ _ hb ht)⟩
theorem setBlk(h:Keeps B T a w){g:Nat}{cs:Array Value}{t:TypeId}(hb:Blk w g t cs)(hB:B≤g)(ht:t∈T)(i:Nat)(u:Value):Keeps B T a (w.setCell ⟨g,i,none⟩ u):=
 h.setCell (p:=⟨g,i,none⟩) hb hB ht u
theorem grown(h:Keeps B T a w){row:Option Nat}(hg:w.grownBy w' row)(hr:∀g,row=some g→a.heap.size≤g∨(B≤g∧∃cs t m,w.heap[g]?=some (.cells cs t m)∧t∈T)):Keeps B T a w':=
 ⟨hg.os.trans h.os,hg.tape.trans h.tape,hg.output.trans h.output,leT h.size hg.size,fun k hk hc=>by
  have e:=h.block k hk hc;refine(hg.block k (ltL hk h.size) fun he=>?_).trans e;rcases hr k he.symm with h1|⟨h1,cs,t,m,h2,h3⟩
  ·omega
  ·rcases hc with hc|hc
   ·omega
   ·exact hc cs t m (e▸h2) h3⟩
theorem blk(h:Keeps B T w w'){g t cs}(hb:Blk w g t cs)(ht:g<B∨t ∉ T):Blk w' g t cs:=by
 unfold Blk at *;rw[h.block g (aG.1 hb).1,hb];rcases ht with ht|ht
 ·exact .inl ht
 ·exact .inr fun cs t m hh=>by rw[hb]at hh;cases hh;exact ht
theorem own(h:Keeps B T w w'){base e size v n xs}(ho:w.ownsRow base e size v n xs)(ht:(∀k,v.ownBlock=some k→k<B)∨e ∉ T):w'.ownsRow base e size v n xs:=by
 refine⟨ho.1,?_⟩;rcases ho.2 with hn|⟨g,cap,cur,rfl,hb,hgg,rest⟩
 ·exact .inl hn
 ·refine .inr ⟨g,cap,cur,rfl,hb,?_,rest⟩
  rw[h.block g (aG.1 hgg).1,hgg];rcases ht with ht|ht
  ·exact .inl (ht g rfl)
  ·exact .inr fun cs t m hh=>by rw[hgg]at hh;cases hh;exact ht
end Keeps
section
variable {w w':World} {g:Nat} {t:TypeId} {cs:Array Value}
theorem Blk.lt(h:Blk w g t cs):g<w.heap.size:=(aG.1 h).1
theorem Blk.cell(h:Blk w g t cs)(i:Nat):w.cell? ⟨g,i,none⟩=cs[i]?:=cell_of_row w g i cs t (0,0) h
theorem Blk.frozen(h:Blk w g t cs)(i:Nat):w.frozen? ⟨g,i,none⟩=false:=by unfold Blk at h;simp[World.frozen?,h]
theorem Blk.new(w:World)(t:TypeId)(cs:Array Value):Blk (w.alloc (.cells cs t)) w.heap.size t cs:=heap_alloc_new w _
theorem Blk.drew(h:Blk w g t cs):Blk w.drew g t cs:=h
theorem Blk.drewN(h:Blk w g t cs)(n:Nat):Blk (w.drewN n) g t cs:=h
theorem Blk.alloc(h:Blk w g t cs)(o:Obj):Blk (w.alloc o) g t cs:=(Below.heap_alloc w o g h.lt).trans h
theorem Blk.set_(h:Blk w g t cs)(i:Nat)(u:Value):Blk (w.setCell ⟨g,i,none⟩ u) g t (cs.setIfInBounds i u):=by unfold Blk at h ⊢;simp[World.setCell,Array.getElem?_modify,h]
theorem Blk.far(h:Blk w g t cs){p:Addr}(hp:g≠p.block)(u:Value):Blk (w.setCell p u) g t cs:=(Below.heap_setCell w p u g hp).trans h
theorem Blk.below{B:Nat}(h:Blk w g t cs)(hb:Below B w w')(hg:g<B):Blk w' g t cs:=(hb.block g hg).trans h
theorem Blk.grown{row:Option Nat}(h:Blk w g t cs)(hb:w.grownBy w' row)(hg:some g≠row):Blk w' g t cs:=(hb.block g h.lt hg).trans h
theorem Blk.ne_{g':Nat}{t':TypeId}{cs':Array Value}(h:Blk w g t cs)(h':Blk w g' t' cs')(hne:t≠t'):g≠g':=by rintro rfl;unfold Blk at h h';rw[h]at h';injection h' with h';injection h' with _ ht;exact hne ht
theorem own_blk_ne{base:Nat}{e:TypeId}{size n:Nat}{v:Value}{xs:List Value}(h:w.ownsRow base e size v n xs)(hg:Blk w g t cs)(hne:e≠t):v.ownBlock≠some g:=by
 rcases h.2 with⟨rfl,_⟩|⟨g',cap,cur,rfl,_,hh,_⟩
 ·simp[Value.ownBlock]
 ·intro he
  have:g'=g:=by simpa [Value.ownBlock] using he
  subst this;exact Blk.ne_ (t:=e) hh hg hne rfl
end
section
variable {α:Type} (f:α→List Value) (m:Nat)
theorem fm_len(hf:∀a,(f a).length=m)(l:List α):(l.flatMap f).length=l.length*m:=by
 induction l with
 | nil=>simp
 | cons a l ih=>simp[List.flatMap_cons,ih,hf,Nat.add_mul];omega
theorem fm_get(hf:∀a,(f a).length=m)(l:List α)(i j:Nat)(hi:i<l.length)(hj:j<m):(l.flatMap f)[i*m+j]?=(f l[i])[j]?:=by
 induction l generalizing i with
 | nil=>simp at hi
 | cons a l ih=>
  rw[List.flatMap_cons];cases i with
  | zero=>rw[gL (by rw[hf];omega)];simp
  | succ i=>rw[List.getElem?_append_right (by rw[hf,Nat.succ_mul];omega)];rw[show (i+1)*m+j-(f a).length=i*m+j by rw[hf,Nat.succ_mul];omega];rw[ih i (by simpa using hi)];simp
theorem fm_take(hf:∀a,(f a).length=m)(l:List α)(k:Nat):(l.flatMap f).take (k*m)=(l.take k).flatMap f:=by
 induction l generalizing k with
 | nil=>simp
 | cons a l ih=>
  cases k with
  | zero=>simp
  | succ k=>rw[List.take_succ_cons,List.flatMap_cons,List.flatMap_cons,List.take_append,hf,tkL (by rw[hf,Nat.succ_mul];omega),show (k+1)*m-m=k*m by rw[Nat.succ_mul];omega,ih]
end
theorem own_cell{w:World}{base:Nat}{e:TypeId}{size n b c:Nat}{xs:List Value}(h:w.ownsRow base e size (.slice (some ⟨b,0,none⟩) n c) n xs)(j:Nat)(hj:j<n*size):w.cell? ⟨b,j,none⟩=xs[j]?:=by
 have:=h.cells (g:=b) rfl j (xs[j]'(by rw[h.1];exact hj)) (by simp[h.1,hj]);have hadd:(⟨b,0,none⟩:Addr).add j=⟨b,j,none⟩:=by unfold Addr.add;split<;>simp_all
 rw[hadd]at this;rw[this];simp[h.1,hj]
theorem own_frozen{w:World}{base:Nat}{e:TypeId}{size n b c:Nat}{xs:List Value}(h:w.ownsRow base e size (.slice (some ⟨b,0,none⟩) n c) n xs)(j:Nat):w.frozen? ⟨b,j,none⟩=false:=by
 rcases h.2 with⟨hh,_⟩|⟨g',cap,cur,hh,_,hb,_⟩
 ·cases hh
 ·cases hh
  simp[World.frozen?,hb]
theorem own_max{w:World}{base:Nat}{e:TypeId}{size n:Nat}{v:Value}{xs:List Value}(h:w.ownsRow base e size v n xs):n≤maxLen:=by rcases h.2 with⟨_,hh⟩|⟨g',cap,cur,_,_,_,h1,h2,_⟩<;>omega
theorem own_take{w:World}{base:Nat}{e:TypeId}{size n b c k:Nat}{xs:List Value}(h:w.ownsRow base e size (.slice (some ⟨b,0,none⟩) n c) n xs)(hk:k≤n):w.ownsRow base e size (.slice (some ⟨b,0,none⟩) k c) k (xs.take (k*size)):=by
 refine⟨by rw[List.length_take,h.1,Nat.min_eq_left (Nat.mul_le_mul_right _ hk)],?_⟩;rcases h.2 with⟨hh,_⟩|⟨g',cap,cur,hh,h1,h2,h3,h4,h5,h6⟩
 ·cases hh
 ·cases hh
  exact .inr ⟨b,c,cur,rfl,h1,h2,by omega,h4,h5,by rw[←h6,List.take_take,Nat.min_eq_left (Nat.mul_le_mul_right _ hk)]⟩
theorem own_set{w:World}{base:Nat}{e:TypeId}{size n b c:Nat}{xs:List Value}(h:w.ownsRow base e size (.slice (some ⟨b,0,none⟩) n c) n xs)(j:Nat)(hj:j<n*size)(u:Value):(w.setCell ⟨b,j,none⟩ u).ownsRow base e size (.slice (some ⟨b,0,none⟩) n c) n (xs.set j u):=by
 refine⟨by simp[h.1],?_⟩;rcases h.2 with⟨hh,_⟩|⟨g',cap,cur,hh,h1,h2,h3,h4,h5,h6⟩
 ·cases hh
 ·cases hh
  refine .inr ⟨b,c,cur.setIfInBounds j u,rfl,h1,?_,h3,h4,by simpa using h5,?_⟩
  ·exact Blk.set_ (t:=e) h2 j u
  ·rw[←h6];simp[List.take_set]
theorem own_far{w:World}{base:Nat}{e:TypeId}{size n:Nat}{v:Value}{xs:List Value}(h:w.ownsRow base e size v n xs){p:Addr}(hp:v.ownBlock≠some p.block)(u:Value):(w.setCell p u).ownsRow base e size v n xs:=by
 refine⟨h.1,?_⟩;rcases h.2 with hn|⟨g,cap,cur,rfl,hb,hgg,rest⟩
 ·exact .inl hn
 ·refine .inr ⟨g,cap,cur,rfl,hb,?_,rest⟩
  rw[Below.heap_setCell _ _ _ _ (by rintro rfl;exact hp rfl),hgg]
theorem own_form{w:World}{base:Nat}{e:TypeId}{size n:Nat}{v:Value}{xs:List Value}(h:w.ownsRow base e size v n xs):(v=.slice none 0 0∧n=0)∨∃b c,v=.slice (some ⟨b,0,none⟩) n c∧base≤b∧b<w.heap.size∧n≤c∧c≤maxLen∧∃cur,Blk w b e cur:=by
 rcases h.2 with hn|⟨g,cap,cur,rfl,hb,hgg,h1,h2,rest⟩
 ·exact .inl hn
 ·exact .inr ⟨g,cap,rfl,hb,(aG.1 hgg).1,h1,h2,cur,hgg⟩
theorem news_blk{w:World}{g:Nat}{t:TypeId}{cs:List Value}(h:Blk w g t cs.toArray):∀j u,cs[j]?=some u→w.cell? ((⟨g,0,none⟩:Addr).add j)=some u:=by
 intro j u hu;have hadd:(⟨g,0,none⟩:Addr).add j=⟨g,j,none⟩:=by unfold Addr.add;split<;>simp_all
 rw[hadd,h.cell j];simpa using hu
end Go.Proofs.YthaacmablcpdfaaGreatDoor
