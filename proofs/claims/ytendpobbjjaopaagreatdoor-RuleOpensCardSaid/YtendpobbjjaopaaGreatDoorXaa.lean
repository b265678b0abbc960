/- . -/
import Derived.WalkKit
import Derived.Laws.OwnMore
import Derived.Laws.Rows
import Derived.Deep.Draws
import Derived.Lib.Hide
import Derived.Maps.AppendAt
import Derived.Laws.AppendOwnNone
import Derived.RegionTactic
import Derived.Test.YtendpobbjjaopaaGreatDoorXnm
set_option linter.all false
set_option maxRecDepth 100000
set_option maxHeartbeats 16000000
namespace Go.Proofs.YtendpobbjjaopaaGreatDoor
open Go.RowKit
open Value renaming slice→oG
open Option renaming some→oM,none→oN
open Obj renaming cells→oP
open World renaming cell?→oT
open Go renaming World→oU,Value→oV
variable{p:Addr}{cs:Array oV}{base c g m n:Nat}{row:Option Nat}{o:Oper}{src v:oV}{news xs:List oV}{i:Array Oper}{a:Act}{K:Act->oU->Prop}{Q:Exit->Act->oU->Prop}
structure AI(B:Nat)(T:List TypeId)(w w':oU):Prop where
 os:w'.os=w.os
 tape:w'.tape=w.tape
 output:w'.output=w.output
 size:w.heap.size<=w'.heap.size
 block:∀k,k<w.heap.size->(k<B\/∀cs t m,w.heap[k]?=oM (oP cs t m)->t ∉ T)->w'.heap[k]?=w.heap[k]?
variable{w:oU}
def Ah(w:oU)(g:Nat)(t:TypeId)(cs:Array oV):Prop:=w.heap[g]?=oM (oP cs t (0,0))
namespace AI
variable {B B':Nat} {T T':List TypeId} {a w w' w'':oU}
def refl(B:Nat)(T:List TypeId)(w:oU):AI B T w w:=⟨rfl,rfl,rfl,Ay _,fun _ _ _=>rfl⟩
def trans(h:AI B T w w')(k:AI B T w' w''):AI B T w w'':=
 ⟨k.os.trans h.os,k.tape.trans h.tape,k.output.trans h.output,AW h.size k.size,fun i l j=>by
  have e:=h.block i l j;have o:i<B\/∀cs t m,w'.heap[i]?=oM (oP cs t m)->t ∉ T:=by
   rcases j with j|j
   ·exact .inl j
   ·exact .inr fun cs t m p=>j cs t m (e▸p)
  exact(k.block i (A0 l h.size) o).trans e⟩
def mono(h:AI B T w w')(I:B'<=B)(l:∀t,t∈T->t∈T'):AI B' T' w w':=
 ⟨h.os,h.tape,h.output,h.size,fun i p j=>h.block i p (by
  rcases j with j|j
  ·exact .inl nX
  ·exact .inr fun cs t m o C=>j cs t m o (l t C))⟩
def AJ(h:Below w w w'):AI B T w w':=⟨h.os,h.tape,h.output,h.size,fun i j _=>h.block i j⟩
def below(h:AI B T w w')(l:B<=w.heap.size):Below B w w':=
 ⟨h.os,h.tape,h.output,h.size,fun i j=>h.block i nX (.inl j)⟩
def drew(h:AI B T a w):AI B T a w.drew:=⟨h.os,h.tape,h.output,h.size,h.block⟩
def drewN(h:AI B T a w)(n:Nat):AI B T a (w.drewN n):=⟨h.os,h.tape,h.output,h.size,h.block⟩
def alloc(h:AI B T a w)(o:Obj):AI B T a (w.alloc o):=
 h.trans (AJ ⟨rfl,rfl,rfl,oA,fun k i=>Below.heap_alloc _ _ _ i⟩)
def setCell(h:AI B T a w){t:TypeId}{m:Nat×Nat}(j:w.heap[p.block]?=oM (oP cs t m))(o:B<=p.block)(l:t∈T)(u:oV):AI B T a (w.setCell p u):=
 h.trans ⟨rfl,rfl,rfl,by simp[World.setCell],fun k C i=>Below.heap_setCell _ _ _ _ (by
  rintro rfl;rcases i with i|i
  ·omega
  ·exact i _ _ _ j l)⟩
def EH(h:AI B T a w){t:TypeId}(l:Ah w g t cs)(j:B<=g)(o:t∈T)(i:Nat)(u:oV):AI B T a (w.setCell (g,i) u):=
 h.setCell (p:=(g,i)) l j o u
def Ul(h:AI B T a w)(l:a.heap.size<=p.block)(u:oV):AI B T a (w.setCell p u):=
 ⟨h.os,h.tape,h.output,by simpa [World.setCell] using h.size,fun k j i=>(Below.heap_setCell _ _ _ _ nX).trans (h.block k j i)⟩
def grown(h:AI B T a w)(j:w.grownBy w' row)(J:∀g,row=oM g->a.heap.size<=g\/(B<=g/\∃cs t m,w.heap[g]?=oM (oP cs t m)/\t∈T)):AI B T a w':=
 ⟨j.os.trans h.os,j.tape.trans h.tape,j.output.trans h.output,AW h.size j.size,fun k l i=>by
  have e:=h.block k l i;refine(j.block k (A0 l h.size) fun I=>?_).trans e;rcases J k I.symm with o|⟨o,cs,t,m,p,C⟩
  ·omega
  ·rcases i with i|i
   ·omega
   ·exact i cs t m (e▸p) C⟩
def Aj(h:AI B T w w'){g t cs}(j:Ah w g t cs)(i:g<B\/t ∉ T):Ah w' g t cs:=by
 unfold Ah at *;rw[h.block g (aG.1 j).1,j];rcases i with i|i
 ·exact .inl i
 ·exact .inr fun cs t m l=>by rw[j]at l;cases l;exact i
def own(h:AI B T w w'){base e size v n xs}(o:w.ownsRow base e size v n xs)(i:(∀k,v.ownBlock=oM k->k<B)\/e ∉ T):w'.ownsRow base e size v n xs:=by
 refine⟨o.1,?_⟩;rcases o.2 with I|⟨g,cap,p,rfl,C,j,rest⟩
 ·exact .inl I
 ·refine .inr ⟨g,cap,p,rfl,C,?_,rest⟩
  rw[h.block g (aG.1 j).1,j];rcases i with i|i
  ·exact .inl (i g rfl)
  ·exact .inr fun cs t m l=>by rw[j]at l;cases l;exact i
end AI
section
variable {w w':oU} {g:Nat} {t:TypeId} {cs:Array oV}
def Ah.lt(h:Ah w g t cs):g<w.heap.size:=(aG.1 h).1
def Ah.cell(h:Ah w g t cs)(i:Nat):oT w (g,i)=cs[i]?:=cell_of_row w g i cs t (0,0) h
def Ah.frozen(h:Ah w g t cs)(i:Nat):w.frozen? (g,i)=false:=by unfold Ah at h;simp[World.frozen?,h]
def Ah.new(w:oU)(t:TypeId)(cs:Array oV):Ah (w.alloc (oP cs t)) w.heap.size t cs:=heap_alloc_new w _
def Ah.drew(h:Ah w g t cs):Ah w.drew g t cs:=h
def Ah.drewN(h:Ah w g t cs)(n:Nat):Ah (w.drewN n) g t cs:=h
def Ah.alloc(h:Ah w g t cs)(o:Obj):Ah (w.alloc o) g t cs:=(Below.heap_alloc w o g h.lt).trans h
def Ah.Ba(h:Ah w g t cs)(i:Nat)(u:oV):Ah (w.setCell (g,i) u) g t (cs.setIfInBounds i u):=by unfold Ah at h ⊢;simp[World.setCell,Array.getElem?_modify,h]
def Ah.Bz(h:Ah w g t cs)(i:g≠p.block)(u:oV):Ah (w.setCell p u) g t cs:=(Below.heap_setCell w p u g i).trans h
def Ah.below{B:Nat}(h:Ah w g t cs)(i:Below B w w')(j:g<B):Ah w' g t cs:=(i.block g j).trans h
def Ah.grown(h:Ah w g t cs)(i:w.grownBy w' row)(j:oM g≠row):Ah w' g t cs:=(i.block g h.lt j).trans h
def Ah.Bb{j:Nat}{l:TypeId}{o:Array oV}(h:Ah w g t cs)(i:Ah w j l o)(p:t≠l):g≠j:=by rintro rfl;unfold Ah at h i;rw[h]at i;injection i with i;injection i with _ C;exact p C
def Du{e:TypeId}{size:Nat}(h:w.ownsRow base e size v n xs)(l:Ah w g t cs)(p:e≠t):v.ownBlock≠oM g:=by
 rcases h.2 with⟨rfl,_⟩|⟨i,cap,C,rfl,_,o,_⟩
 ·simp[Value.ownBlock]
 ·intro j
  have:i=g:=by simpa [Value.ownBlock] using j
  subst this;exact Ah.Bb (t:=e) o l p rfl
end
section
variable {α:Type} (f:α->List oV) (m:Nat)
theorem KU(i:∀a,(f a).length=m)(l:List α):(l.flatMap f).length=l.length*m:=by
 induction l with
 | nil=>simp
 | cons a l j=>simp[List.flatMap_cons,j,i,Nat.add_mul];omega
theorem CP(o:∀a,(f a).length=m)(l:List α)(i j:Nat)(p:i<l.length)(I:j<m):(l.flatMap f)[i*m+j]?=(f l[i])[j]?:=by
 induction l generalizing i with
 | nil=>simp at p
 | cons a l C=>
  rw[List.flatMap_cons];cases i with
  | zero=>rw[gL (by rw[o];omega)];simp
  | succ i=>rw[List.getElem?_append_right (by rw[o,Nat.succ_mul];omega)];rw[show (i+1)*m+j-(f a).length=i*m+j by rw[o,Nat.succ_mul];omega];rw[C i (by simpa using p)];simp
theorem Q0(i:∀a,(f a).length=m)(l:List α)(k:Nat):(l.flatMap f).take (k*m)=(l.take k).flatMap f:=by
 induction l generalizing k with
 | nil=>simp
 | cons a l j=>
  cases k with
  | zero=>simp
  | succ k=>rw[List.take_succ_cons,List.flatMap_cons,List.flatMap_cons,List.take_append,i,Da (by rw[i,Nat.succ_mul];omega),show (k+1)*m-m=k*m by rw[Nat.succ_mul];omega,j]
end
def Bh{e:TypeId}{size b:Nat}(h:w.ownsRow base e size (oG (b,0) n c) n xs)(j:Nat)(i:j<n*size):oT w (b,j)=xs[j]?:=by
 have:=h.cells (g:=b) rfl j (xs[j]'(by rw[h.1];exact i)) (by simp[h.1,i]);have l:((b,0):Addr).add j=(b,j):=by unfold Addr.add;split<;>simp_all
 rw[l]at this;rw[this];simp[h.1,i]
def GD{e:TypeId}{size b:Nat}(h:w.ownsRow base e size (oG (b,0) n c) n xs)(j:Nat):w.frozen? (b,j)=false:=by
 rcases h.2 with⟨i,_⟩|⟨p,cap,o,i,_,l,_⟩
 ·cases i
 ·cases i
  simp[World.frozen?,l]
def RG{e:TypeId}{size:Nat}(h:w.ownsRow base e size v n xs):n<=maxLen:=by rcases h.2 with⟨_,p⟩|⟨j,cap,i,_,_,_,l,o,_⟩<;>omega
def Vd{e:TypeId}{size b k:Nat}(h:w.ownsRow base e size (oG (b,0) n c) n xs)(j:k<=n):w.ownsRow base e size (oG (b,0) k c) k (xs.take (k*size)):=by
 refine⟨by rw[List.length_take,h.1,Nat.min_eq_left (Nat.mul_le_mul_right _ j)],?_⟩;rcases h.2 with⟨i,_⟩|⟨P,cap,l,i,o,p,R,C,I,J⟩
 ·cases i
 ·cases i
  exact .inr ⟨b,c,l,rfl,o,p,nX,C,I,by rw[<-J,List.take_take,Nat.min_eq_left (Nat.mul_le_mul_right _ j)]⟩
def Ge{e:TypeId}{size b:Nat}(h:w.ownsRow base e size (oG (b,0) n c) n xs)(j:Nat)(U:j<n*size)(u:oV):(w.setCell (b,j) u).ownsRow base e size (oG (b,0) n c) n (xs.set j u):=by
 refine⟨by simp[h.1],?_⟩;rcases h.2 with⟨i,_⟩|⟨R,cap,l,i,o,p,C,I,J,P⟩
 ·cases i
 ·cases i
  refine .inr ⟨b,c,l.setIfInBounds j u,rfl,o,?_,C,I,by simpa using J,?_⟩
  ·exact Ah.Ba (t:=e) p j u
  ·rw[<-P];simp[List.take_set]
def EB{e:TypeId}{size:Nat}(h:w.ownsRow base e size v n xs)(C:v.ownBlock≠oM p.block)(u:oV):(w.setCell p u).ownsRow base e size v n xs:=by
 refine⟨h.1,?_⟩;rcases h.2 with o|⟨g,cap,i,rfl,j,l,rest⟩
 ·exact .inl o
 ·refine .inr ⟨g,cap,i,rfl,j,?_,rest⟩
  rw[Below.heap_setCell _ _ _ _ (by rintro rfl;exact C rfl),l]
def Bj{e:TypeId}{size:Nat}(h:w.ownsRow base e size v n xs):(v=oG oN 0 0/\n=0)\/∃b c,v=oG (oM ⟨b,0,oN⟩) n c/\base<=b/\b<w.heap.size/\n<=c/\c<=maxLen/\∃i,Ah w b e i:=by
 rcases h.2 with C|⟨g,cap,i,rfl,p,j,l,o,rest⟩
 ·exact .inl C
 ·exact .inr ⟨g,cap,rfl,p,(aG.1 j).1,l,o,i,j⟩
def ZL{t:TypeId}{cs:List oV}(h:Ah w g t cs.toArray):∀j u,cs[j]?=oM u->oT w (((g,0):Addr).add j)=oM u:=by
 intro j u l;have i:((g,0):Addr).add j=⟨g,j,oN⟩:=by unfold Addr.add;split<;>simp_all
 rw[i,h.cell j];simpa using l
structure El(P:Program)(t e:TypeId)(size bytes:Nat):Prop where
 ht:P.underlying t=oM (.slice e)
 hi:∃i z,P.info? e=oM i/\i.zero=oM z/\i.size=size/\i.bytes=bytes/\z.cells.size=size
 pos:0<size
variable{P:Program}{e t:TypeId}{bytes size:Nat}
def El.of{z:oV}(o:P.underlying t=oM (.slice e))(h:(P.info? e).map (fun i=>(i.zero,i.size,i.bytes))=oM (oM z,size,bytes))(p:z.cells.size=size)(l:0<size):El P t e size bytes:=by obtain⟨R,j,C,I,J⟩:=info_parts h;exact⟨o,⟨R,z,j,C,I,J,p⟩,l⟩
def Be(w:oU)(src:oV)(m size:Nat)(news:List oV):Prop:=
 (∀u∈news,u.oneCell'=true)/\((src=oG oN 0 0/\m=0/\news=[]) \/
 ∃i c,src=oG (oM i) m c/\news.length=m*size/\∀j u,news[j]?=oM u->oT w (i.add j)=oM u)
def Be.own(h:w.ownsRow base e size v n xs)(i:∀u∈xs,u.oneCell'=true):Be w v n size xs:=by
 refine⟨i,?_⟩;rcases h.2 with⟨rfl,rfl⟩|⟨g,cap,j,rfl,_⟩
 ·exact .inl ⟨rfl,rfl,List.eq_nil_of_length_eq_zero (by simpa using h.1)⟩
 ·exact .inr ⟨_,_,rfl,h.1,h.cells rfl⟩
def Be.Aj{cs:List oV}(h:Ah w g t cs.toArray)(j:cs.length=m*size)(i:∀u∈cs,u.oneCell'=true):Be w (oG (g,0) m c) m size cs:=
 ⟨i,.inr ⟨_,_,rfl,j,ZL h⟩⟩
def Be.BZ{w':oU}(h:Be w src m size news)(p:∀a,src.ownBlock=oM a->w'.heap[a]?=w.heap[a]?):Be w' src m size news:=by
 refine⟨h.1,?_⟩;rcases h.2 with C|⟨i,c,rfl,t,o⟩
 ·exact .inl C
 ·refine .inr ⟨i,c,rfl,t,fun j u I=>?_⟩
  have l:(i.add j).block=i.block:=by unfold Addr.add;split<;>rfl
  exact(World.cell?_of_block (w:=w) (by rw[l];exact p _ rfl)).trans (o j u I)
def OA{W:oU}{i:Array oV}{cap:Nat}(l:W.heap.size=g)(j:base<=g)(o:cap<=maxLen)(p:i.size=cap*size) :
  (W.alloc (oP i e)).ownsRow base e size (oG (g,0) 0 cap) 0 []:=by
 subst l;exact World.ownsRow_made W i cap j o p
def Nx{ty:TypeId}(E:El P t e size bytes){N:Nat}
  (l:w.ownsRow base e size v n xs) (a5:Be w src m size news) (hN:n+m=N) (a0:N<=maxLen) (a2:N*bytes<=140737488355328) (a1:base<=w.heap.size) :
  ∃A c w',(Builtin.append_ #[t,t] ty #[v,src]).run P w=.ok (oG A N c) w'/\w'.ownsRow base e size (oG A N c) N (xs++news)/\AI base [e] w w' /\
   (w.grownBy w' v.ownBlock/\((Value.slice A N c).ownBlock=v.ownBlock\/(Value.slice A N c).ownBlock=oM w.heap.size)):=by
 subst hN;obtain⟨R,⟨i,z,J,hz,a3,a4,a6⟩,hp⟩:=E;rcases a5 with⟨o,⟨rfl,rfl,rfl⟩|⟨U,c,rfl,hl,hc⟩⟩
 ·have p:=run_append_owned_none (P:=P) (w:=w) base t ty e i size R J v n xs l
  rcases Bj l with⟨rfl,rfl⟩|⟨b,c,rfl,_⟩
  ·exact⟨_,_,w,p,by simpa using l,AI.refl _ _ _,World.grownBy.refl w _,.inl rfl⟩
  ·exact⟨_,_,w,p,by simpa using l,AI.refl _ _ _,World.grownBy.refl w _,.inl rfl⟩
 ·obtain⟨v',w',p,C,I,_,T⟩:=run_append_own_at (P:=P) w base t ty e i z size bytes R J hz a3 a4 a6 hp v n xs l U m c news hl hc o a0 a2 a1
  have j:AI base [e] w w':=(AI.refl base [e] w).grown I fun k j=>.inr (by
   rcases Bj l with⟨o,_⟩|⟨b,c,o,h2,_,_,_,a7,h3⟩
   ·rw[o]at j;cases j
   ·rw[o]at j
    simp only[Value.ownBlock,Option.some.injEq]at j;subst j;exact⟨h2,_,_,_,h3,oA⟩)
  rcases Bj C with⟨rfl,h0⟩|⟨b,c',rfl,_⟩
  ·rw[h0]at C ⊢
   exact⟨_,_,w',p,C,j,I,T⟩
  ·exact⟨_,_,w',p,C,j,I,T⟩
def Eu(E:El P t e size bytes)(s x:Operand)
  (C:o.op=.call {callee:=.builtin .append,args:=#[s,x],argTypes:=#[t,t]}) {N:Nat}   (R:a.eval s=v) (U:a.eval x=src)
  (I:w.ownsRow base e size v n xs) (T:Be w src m size news) (j:n+m=N) (i:N<=maxLen) (p:N*bytes<=140737488355328) (l:base<=w.heap.size)
  (h:∀A c w',w'.ownsRow base e size (oG A N c) N (xs++news)->AI base [e] w w'->(w.grownBy w' v.ownBlock/\((Value.slice A N c).ownBlock=v.ownBlock\/(Value.slice A N c).ownBlock=oM w.heap.size))->K (a.put o.dst (oG A N c)) w'):o.wp P a w K Q:=by
 obtain⟨A,c,w',J,r1,r2,r3⟩:=Nx (P:=P) (ty:=o.type) E I T j i p l;unfold Oper.wp execOp;simp only[C,resolve,invoke,builtin,Sem.run_bind,Sem.run_pure,Result.andThen_ok,List.map_toArray,List.map_cons,List.map_nil,R,U,J];exact h A c w' r1 r2 r3
def DC{rest:List Oper}(E:El P t e size bytes)(s x:Operand)(J:o.guard=oN)
  (R:o.op=.call {callee:=.builtin .append,args:=#[s,x],argTypes:=#[t,t]}) {N:Nat}   (U:a.eval s=v) (hx:a.eval x=src)
  (T:w.ownsRow base e size v n xs) (a0:Be w src m size news) (p:n+m=N) (j:N<=maxLen) (I:N*bytes<=140737488355328) (C:base<=w.heap.size)
  (h:∀A c w',w'.ownsRow base e size (oG A N c) N (xs++news)->AI base [e] w w'->(w.grownBy w' v.ownBlock/\((Value.slice A N c).ownBlock=v.ownBlock\/(Value.slice A N c).ownBlock=oM w.heap.size))->wpList P i Q rest (a.put o.dst (oG A N c)) w'):wpList P i Q (o::rest) a w:=
 wpList_plain J fun _ l=>Eu E s x R U hx T a0 p j I C fun A c w' r1 r2 r3=>l _ _ (h A c w' r1 r2 r3)
def ER{D:Prop}(E:El P t e size bytes)(s x:Operand)(I:o.guard=oN)
  (J:o.op=.call {callee:=.builtin .append,args:=#[s,x],argTypes:=#[t,t]}) {N:Nat}   (T:a.eval s=v) (hx:a.eval x=src)
  (R:w.ownsRow base e size v n xs) (U:Be w src m size news) (l:n+m=N) (j:N<=maxLen) (C:N*bytes<=140737488355328) (p:base<=w.heap.size)
  (h:∀A c w',w'.ownsRow base e size (oG A N c) N (xs++news)->AI base [e] w w'->(w.grownBy w' v.ownBlock/\((Value.slice A N c).ownBlock=v.ownBlock\/(Value.slice A N c).ownBlock=oM w.heap.size))->K (a.put o.dst (oG A N c)) w') :
  if Region.wanted o (yielded i a.tmps)=true then Oper.wp P o a w K Q else D:=by
 have hw:Region.wanted o (yielded i a.tmps)=true:=by simp[Region.wanted,I]
 rw[if_pos hw];exact Eu E s x J T hx R U l j C p h
