/- . -/
import Derived.Test.YtendpobbjjaopaaGreatDoorXab
import Derived.Laws.EntriesVeiled
import Derived.Deep.RegionLaw
set_option linter.all false
set_option maxRecDepth 100000
set_option maxHeartbeats 16000000
namespace Go.Proofs.YtendpobbjjaopaaGreatDoor
open Go.RowKit Go.Proofs.Tryz
open Value renaming slice→oG,int→oH,pointer→oI,string→oJ
open Option renaming some→oM,none→oN
open IntKind renaming i64→oO
open Ending renaming returned→oQ
open World renaming cell?→oT
open Go renaming World→oU,Value→oV
variable{a:Act}{w':oU}{M:Nat}{v:oV}{news:List oV}{o:Oper}{K:Act->oU->Prop}{Q:Exit->Act->oU->Prop}{j:Array Oper}
def Fit(e:TypeId)(u:oV):Prop:=e=5->∃c:UInt8,u=oH .u8 c.toNat
def Up(w w':oU):Prop:=∀(b:Nat) (i:Array oV) (e:TypeId),(e=5\/e=53)->Ah w b e i->(∀u∈i.toList,Fit e u)->∃j:Array oV,Ah w' b e j/\j.size=i.size/\∀u∈j.toList,Fit e u
def Up.trans{a b c:oU}(h:Up a b)(k:Up b c):Up a c:=fun n j e i h0 f=>by obtain⟨c1,p,C,l⟩:=h n j e i h0 f;obtain⟨c2,t,I,o⟩:=k n c1 e i p l;exact⟨c2,t,I.trans C,o⟩
theorem Up.row{w:oU}{row:Option Nat}(C:w.grownBy w' row)(h:∀b,row=oM b->∃e j,Ah w b e j/\e≠5/\e≠53):Up w w':=fun b j e i h0 f=>by
 refine⟨j,h0.grown C fun l=>?_,rfl,f⟩;obtain⟨P,c2,o,I,J⟩:=h b l.symm;have p:=Option.some.inj (h0.symm.trans o);injection p with R t;subst t;rcases i with i|i
 ·exact I i
 ·exact J i
variable{row:Option Nat}
def Up.below{w:oU}(h:Below w.heap.size w w'):Up w w':=.row (row:=oN) ⟨h.os,h.tape,h.output,h.size,fun k i _=>h.block k i⟩ fun b e=>by cases e
def Sl(B N:Nat)(w:oU)(e:TypeId)(size:Nat)(v:oV):Prop:=
 ∃A n c,v=oG A n c/\n<=N/\((A=oN/\n=0/\c=0)\/∃b i,A=oM ⟨b,0,oN⟩/\B<=b/\Ah w b e i/\n<=c/\c<=maxLen/\i.size=c*size/\∀u∈i.toList,Fit e u)
def Sl.nil{B N:Nat}{w:oU}{e:TypeId}{size:Nat}:Sl B N w e size (oG oN 0 0):=⟨_,_,_,rfl,AX _,.inl ⟨rfl,rfl,rfl⟩⟩
def Sl.up{B N:Nat}{w:oU}{e:TypeId}{size:Nat}(h:Sl B N w e size v)(k:Up w w')(he:e=5\/e=53)(hN:N<=M):Sl B M w' e size v:=by obtain⟨A,n,c,U,h2,h3⟩:=h;refine⟨A,n,c,U,AW h2 hN,h3.imp id ?_⟩;rintro⟨b,R,i,j,l,o,p,t,C⟩;obtain⟨T,I,J,P⟩:=k b R e he l C;exact⟨b,T,i,j,I,o,p,J.trans t,P⟩
def dC{e:TypeId}{z:Array oV}(h:∀u∈z.toList,Fit e u)(n:Nat):∀u∈(Builtin.zeroCells z n).toList,Fit e u:=by
 intro u j;simp only[Builtin.zeroCells,Array.toList_map,List.mem_map]at j;obtain⟨i,l,rfl⟩:=j;have o:i<n*z.size:=by simpa using l
 have p:i%z.size<z.size:=Nat.mod_lt _ (Nat.pos_of_ne_zero fun e=>by rw[e]at o;omega);rw[getElem!_pos z _ p];exact h _ oA
def Sl.app{P:Program}{w:oU}{t e ty:TypeId}{size bytes B N n c m:Nat}{A:Option Addr}{src:oV}(E:El P t e size bytes)(ah:∀i z,P.info? e=oM i->i.zero=oM z->∀u∈z.cells.toList,Fit e u)
  (he:e=5\/e=53) (h:Sl B N w e size (oG A n c)) (hs:Be w src m size news) (hf:∀u∈news,Fit e u) (hm:0<m) (hN:n+m<=maxLen) (hb:(n+m)*bytes<=140737488355328) (hB:B<=w.heap.size) :
  ∃A' c' w',(Builtin.append_ #[t,t] ty #[oG A n c,src]).run P w=.ok (oG A' (n+m) c') w'/\Sl B (n+m) w' e size (oG A' (n+m) c')/\Up w w'/\w.grownBy w' (Value.slice A n c).ownBlock/\((Value.slice A' (n+m) c').ownBlock=(Value.slice A n c).ownBlock\/A'=oM ⟨w.heap.size,0,oN⟩):=by
 obtain⟨ht,⟨i,z,T,hz,rfl,rfl,ai⟩,hp⟩:=E;have al:n+m<=9223372036854775807:=by simp only[maxLen]at hN;omega
 rcases hs with⟨h1,⟨_,h0,_⟩|⟨U,sc,rfl,I,hc⟩⟩
 ·omega
 have aj:=dC (ah i z T hz);have grown:∀(FW:Nat) (C:List oV),C.length=n*i.size->(∀u∈C,Fit e u)->∀row:Option Nat,
   Sl B (n+m) (w.drew.alloc (.cells (C.toArray++news.toArray++Builtin.zeroCells z.cells (grownCap w (n+m) FW e-(n+m))) e)) e i.size (oG (oM ⟨w.heap.size,0,oN⟩) (n+m) (grownCap w (n+m) FW e)) /\
   Up w (w.drew.alloc (.cells (C.toArray++news.toArray++Builtin.zeroCells z.cells (grownCap w (n+m) FW e-(n+m))) e)) /\
   w.grownBy (w.drew.alloc (.cells (C.toArray++news.toArray++Builtin.zeroCells z.cells (grownCap w (n+m) FW e-(n+m))) e)) row:=by
  intro FW C hx ag row;have ae:=grownCap_ge w (n+m) FW e;refine⟨⟨_,_,_,rfl,Ay _,.inr ⟨_,_,rfl,hB,heap_alloc_new w.drew _,ae,grownCap_le_maxLen w (n+m) FW e hN,?_,fun u j=>?_⟩⟩,Up.below ((Below.refl _ w).drew.alloc (Ay _) _),⟨rfl,rfl,rfl,oA,fun k p _=>heap_alloc_old w.drew _ p⟩⟩
  ·simp only[Array.size_append,List.size_toArray,size_zeroCells,ai,hx,I,<-Nat.add_mul]
   congr 1;omega
  ·simp only[Array.toList_append,mA]at j
   rcases j with(j|j)|j
   ·exact ag u j
   ·exact hf u j
   ·exact aj _ u j
 obtain⟨_,_,_,hv,_,h⟩:=h;cases hv
 rcases h with⟨rfl,rfl,rfl⟩|⟨b,l,rfl,a9,R,af,ab,a2,a0⟩
 ·have J:=run_append_nil (P:=P) w t ty e i z ht T hz U m sc news I hc hm nX (by simp only[Nat.zero_add]at hb;omega)
  have o:=grown 0 [] oA oA oN;simp only[Nat.zero_add,Array.empty_append]at o ⊢;exact⟨_,_,_,J,o.1,o.2.1,o.2.2,.inr rfl⟩
 ·by_cases a1:n+m<=c
  ·have ad:n*i.size+news.length<=l.size:=by rw[I,a2,<-Nat.add_mul];exact Nat.mul_le_mul_right _ a1
   have J:=run_append_room (P:=P) w t ty e i ht T b n c l R U m sc news I hc h1 a1 ad;have a5:(l.toList.take (n*i.size)++news++l.toList.drop (n*i.size+news.length)).toArray.size=l.size:=by simp only[List.size_toArray,Cb,List.length_take,List.length_drop,Array.length_toList];omega
   have a3:∀u∈(l.toList.take (n*i.size)++news++l.toList.drop (n*i.size+news.length)),Fit e u:=fun u j=>by
    simp only[mA]at j;rcases j with(j|j)|j
    ·exact a0 u (List.mem_of_mem_take j)
    ·exact hf u j
    ·exact a0 u (List.mem_of_mem_drop j)
   have a4:Ah (w.setRow b (l.toList.take (n*i.size)++news++l.toList.drop (n*i.size+news.length)).toArray) b e _:=setRow_heap w b l _ e _ R;refine⟨_,_,_,J,⟨_,_,_,rfl,Ay _,.inr ⟨b,_,rfl,a9,a4,a1,ab,a5.trans a2,a3⟩⟩,fun k a8 e2 ak h2 f2=>?_,⟨rfl,rfl,rfl,oA,fun k _ p=>setRow_other w b k _ (fun e=>p (by simp[Value.ownBlock,e]))⟩,.inl rfl⟩;by_cases p:k=b
   ·subst p
    have h3:=Option.some.inj (R.symm.trans h2);injection h3 with h4 h5;subst h4 h5;exact⟨_,a4,a5,a3⟩
   ·exact⟨a8,(setRow_other w b k _ p).trans h2,rfl,f2⟩
  ·have a6:(l.toList.take (n*i.size)).length=n*i.size:=by
    have:=Nat.mul_le_mul_right i.size af;simp;omega
   have J:=run_append_grow (P:=P) w t ty e i z ht T hz ⟨b,0,oN⟩ n c (l.toList.take (n*i.size)) a6 (fun a7 u j=>by
    have aa:(⟨b,0,oN⟩:Addr).add a7=⟨b,a7,oN⟩:=by unfold Addr.add;split<;>simp_all
    rw[List.getElem?_take]at j;split at j
    ·rw[aa,R.cell];simpa using j
    ·cases j) U m sc news I hc nX nX (growslice_fits nX hb)
   have o:=grown c _ a6 (fun u j=>a0 u (List.mem_of_mem_take j)) (oM b);exact⟨_,_,_,J,o.1,o.2.1,o.2.2,.inr rfl⟩
structure JL(P:Program)(w:oU)(t e:TypeId)(size bytes B n c m:Nat)(A:Option Addr)(src:oV):Prop where
 run:∀ty,∃A' c' w',(Builtin.append_ #[t,t] ty #[oG A n c,src]).run P w=.ok (oG A' (n+m) c') w'/\Sl B (n+m) w' e size (oG A' (n+m) c')/\Up w w'/\w.grownBy w' (Value.slice A n c).ownBlock/\((Value.slice A' (n+m) c').ownBlock=(Value.slice A n c).ownBlock\/A'=oM ⟨w.heap.size,0,oN⟩)
variable{P:Program}{e t:TypeId}{B bytes c size:Nat}{A:Option Addr}
def TK{w:oU}{n m:Nat}{src:oV}(H:JL P w t e size bytes B n c m A src)(s x:Operand)
  (j:o.op=.call {callee:=.builtin .append,args:=#[s,x],argTypes:=#[t,t]}) (p:a.eval s=oG A n c) (C:a.eval x=src)
  (h:∀A' i w',Sl B (n+m) w' e size (oG A' (n+m) i)->Up w w'->w.grownBy w' (Value.slice A n c).ownBlock->((Value.slice A' (n+m) i).ownBlock=(Value.slice A n c).ownBlock\/A'=oM ⟨w.heap.size,0,oN⟩)->K (a.put o.dst (oG A' (n+m) i)) w'):o.wp P a w K Q:=by
 obtain⟨A',i,w',l,I,J,R,T⟩:=H.run o.type;unfold Oper.wp execOp;simp only[j,resolve,invoke,builtin,Sem.run_bind,Sem.run_pure,Result.andThen_ok,List.map_toArray,List.map_cons,List.map_nil,p,C,l];exact h A' i w' I J R T
def Hu{w:oU}{rest:List Oper}{n m:Nat}{src:oV}(H:JL P w t e size bytes B n c m A src)(s x:Operand)(p:o.guard=oN)
  (C:o.op=.call {callee:=.builtin .append,args:=#[s,x],argTypes:=#[t,t]}) (I:a.eval s=oG A n c) (J:a.eval x=src)
  (h:∀A' i w',Sl B (n+m) w' e size (oG A' (n+m) i)->Up w w'->w.grownBy w' (Value.slice A n c).ownBlock->((Value.slice A' (n+m) i).ownBlock=(Value.slice A n c).ownBlock\/A'=oM ⟨w.heap.size,0,oN⟩)->wpList P j Q rest (a.put o.dst (oG A' (n+m) i)) w'):wpList P j Q (o::rest) a w:=
 wpList_plain p fun _ l=>TK H s x C I J fun A' i w' R T U r4=>l _ _ (h A' i w' R T U r4)
def TD{w:oU}{D:Prop}{n m:Nat}{src:oV}(H:JL P w t e size bytes B n c m A src)(s x:Operand)(l:o.guard=oN)
  (p:o.op=.call {callee:=.builtin .append,args:=#[s,x],argTypes:=#[t,t]}) (C:a.eval s=oG A n c) (J:a.eval x=src)
  (h:∀A' i w',Sl B (n+m) w' e size (oG A' (n+m) i)->Up w w'->w.grownBy w' (Value.slice A n c).ownBlock->((Value.slice A' (n+m) i).ownBlock=(Value.slice A n c).ownBlock\/A'=oM ⟨w.heap.size,0,oN⟩)->K (a.put o.dst (oG A' (n+m) i)) w') :
  if Region.wanted o (yielded j a.tmps)=true then Oper.wp P o a w K Q else D:=by
 have I:Region.wanted o (yielded j a.tmps)=true:=by simp[Region.wanted,l]
 rw[if_pos I];exact TK H s x p C J h
structure TL where
 place:Nat
 parts:oV
 lit:oV
 name:ByteArray
 op:ByteArray
def TL.cells(l:TL):List oV:=[oH oO l.place,l.parts,l.lit,oJ l.name,oJ l.op]
def TL.len(l:TL):l.cells.length=5:=rfl
structure TM where
 lv:oV
 kind:Nat
 took:oV
 plain:oV
 exp:Bool
 quoted:Bool
 buf:oV
 deep:Int
 length:Bool
 cut:UInt8
 lower:List TL
 top:TL
def Iv(k g:Nat):oV:=
 match k with
 | 0=>.func (.func 73) #[oI (oM ⟨g,0,oN⟩)] #[]
 | 1=>.func (.func 74) #[oI (oM ⟨g,0,oN⟩)] #[]
 | 2=>.func (.func 75) #[oI (oM ⟨g,0,oN⟩)] #[]
 | 3=>.func (.func 76) #[oI (oM ⟨g,0,oN⟩)] #[]
 | 4=>.func (.func 77) #[oI (oM ⟨g,0,oN⟩)] #[]
 | 5=>.func (.func 78) #[oI (oM ⟨g,0,oN⟩)] #[]
 | 6=>.func (.func 79) #[oI (oM ⟨g,0,oN⟩)] #[]
 | 7=>.func (.func 80) #[oI (oM ⟨g,0,oN⟩)] #[]
 | 8=>.func (.func 80) #[oI (oM ⟨g,0,oN⟩)] #[]
 | 9=>.func (.func 81) #[oI (oM ⟨g,0,oN⟩)] #[]
 | 10=>.func (.func 82) #[oI (oM ⟨g,0,oN⟩)] #[]
 | 11=>.func (.func 83) #[oI (oM ⟨g,0,oN⟩)] #[]
 | 12=>.func (.func 84) #[oI (oM ⟨g,0,oN⟩)] #[]
 | 13=>.func (.func 85) #[oI (oM ⟨g,0,oN⟩)] #[]
 | 14=>.func (.func 86) #[oI (oM ⟨g,0,oN⟩)] #[]
 | 16=>.func (.func 87) #[] #[]
 | _=>.func (.func 88) #[] #[]
def TM.cells(x:TM)(g:Nat):Array oV:=#[x.lv,Iv x.kind g,oH oO x.kind,x.took,x.plain,.bool x.exp,.bool x.quoted,x.buf,oH oO x.deep,.bool x.length,oH .u8 x.cut.toNat]
def TM.levels(x:TM):List TL:=x.lower++[x.top]
structure AK(w0:oU)(N g:Nat)(w:oU)(x:TM):Prop where
 Aj:Ah w g 71 (x.cells g)
 base:w0.heap.size<=g
 frame:Below w0.heap.size w0 w
 lv:w.ownsRow w0.heap.size 188 5 x.lv x.levels.length (x.levels.flatMap TL.cells)
 n:x.lower.length<=N
 took:Sl w0.heap.size N w 5 1 x.took
 plain:Sl w0.heap.size N w 5 1 x.plain
 buf:Sl w0.heap.size N w 5 1 x.buf
 EU:∀l∈x.levels,Sl w0.heap.size N w 53 5 l.parts/\Sl w0.heap.size N w 5 1 l.lit
 zero:x.levels.head?.map TL.place=oM 0
variable{w:oU}{N n:Nat}
section
variable {w0 w w':oU} {N g:Nat} {x:TM}
def JT{a:oU}(h:Below B a w)(o:B<=w.heap.size)(i:w.grownBy w' row)(j:∀b,row=oM b->B<=b):Below B a w':=
 ⟨i.os.trans h.os,i.tape.trans h.tape,i.output.trans h.output,AW h.size i.size,fun k l=>(i.block k nX fun e=>by have:=j k e.symm;omega).trans (h.block k l)⟩
def AK.le(h:AK w0 N g w x):w0.heap.size<=w.heap.size:=h.frame.size
def AK.grown(h:AK w0 N g w x)(j:Up w w')(o:w.grownBy w' row)(t:oM g≠row)(C:x.lv.ownBlock≠row)(I:∀b,row=oM b->w0.heap.size<=b)(i:N<=M):AK w0 M g w' x:=
 ⟨h.Aj.grown o t,h.base,JT h.frame h.le o I,h.lv.kept o (.inr C),AW h.n i,h.took.up j (.inl rfl) i,h.plain.up j (.inl rfl) i,h.buf.up j (.inl rfl) i,fun l p=>⟨(h.EU l p).1.up j (.inr rfl) i,(h.EU l p).2.up j (.inl rfl) i⟩,h.zero⟩
def AK.below(h:AK w0 N g w x)(i:Below w.heap.size w w'):AK w0 N g w' x:=by
 obtain⟨b,c,o,_⟩:∃b c,x.lv=oG (oM ⟨b,0,oN⟩) x.levels.length c/\True:=by
  rcases Bj h.lv with⟨_,h0⟩|⟨b,c,j,_⟩
  ·simp[TM.levels]at h0
  ·exact⟨b,c,j,trivial⟩
 exact h.grown (row:=oN) (.below i) ⟨i.os,i.tape,i.output,i.size,fun k l _=>i.block k l⟩ oA (by rw[o];simp[Value.ownBlock]) (fun b e=>by cases e) (Ay _)
def AK.mono(h:AK w0 N g w x)(i:N<=M):AK w0 M g w x:=
 ⟨h.Aj,h.base,h.frame,h.lv,AW h.n i,h.took.up (.below (Below.refl _ w)) (.inl rfl) i,h.plain.up (.below (Below.refl _ w)) (.inl rfl) i,h.buf.up (.below (Below.refl _ w)) (.inl rfl) i,fun l j=>⟨(h.EU l j).1.up (.below (Below.refl _ w)) (.inr rfl) i,(h.EU l j).2.up (.below (Below.refl _ w)) (.inl rfl) i⟩,h.zero⟩
def AK.app(h:AK w0 N g w x)(p:e=5\/e=53)(R:Sl w0.heap.size N w e size (oG A n c))(P:Up w w')(i:w.grownBy w' (Value.slice A n c).ownBlock)(l:N<=M):AK w0 M g w' x:=by
 obtain⟨_,_,_,t,_,C⟩:=R;cases t
 rcases C with⟨rfl,rfl,rfl⟩|⟨b,T,rfl,I,o,_⟩
 ·exact(h.below ⟨i.os,i.tape,i.output,i.size,fun k J=>i.block k J (by simp[Value.ownBlock])⟩).mono l
 ·refine h.grown P i (fun j=>?_) (Du h.lv o ?_) (fun k j=>by cases j;exact I) l
  ·cases j
   exact h.Aj.Bb o (by rcases p with rfl|rfl<;>decide) rfl
  ·rcases p with rfl|rfl<;>decide
def IV(w:oU)(b i:Nat)(u:oV):w.grownBy (w.setCell ⟨b,i,oN⟩ u) (oM b):=
 ⟨rfl,rfl,rfl,by simp[World.setCell],fun k l j=>Below.heap_setCell _ _ _ _ (by rintro rfl;exact j rfl)⟩
def AK.put(h:AK w0 N g w x){i:TM}(C:Ah w' g 71 (i.cells g))(o:w.grownBy w' (oM g))(P:i.lv=x.lv)(t:i.lower=x.lower)(J:i.top=x.top)
  (p:Sl w0.heap.size N w 5 1 i.took/\Sl w0.heap.size N w 5 1 i.plain/\Sl w0.heap.size N w 5 1 i.buf):AK w0 N g w' i:=by
 have j:Up w w':=.row o fun b e=>by cases e;exact⟨_,_,h.Aj,nY,nY⟩
 have e:i.levels=x.levels:=by simp[TM.levels,t,J]
 refine⟨C,h.base,JT h.frame h.le o (fun b e=>by cases e;exact h.base),?_,t▸h.n,p.1.up j (.inl rfl) (Ay _),p.2.1.up j (.inl rfl) (Ay _),p.2.2.up j (.inl rfl) (Ay _),fun l I=>?_,e▸h.zero⟩
 ·rw[P,e]
  exact h.lv.kept o (.inr (Du h.lv h.Aj nY))
 ·have:=h.EU l (e▸I)
  exact⟨this.1.up j (.inr rfl) (Ay _),this.2.up j (.inl rfl) (Ay _)⟩
def AK.set(h:AK w0 N g w x)(i:Nat)(u:oV)(j:TM)(l:(x.cells g).setIfInBounds i u=j.cells g)(C:j.lv=x.lv)(o:j.lower=x.lower)(t:j.top=x.top)
  (p:Sl w0.heap.size N w 5 1 j.took/\Sl w0.heap.size N w 5 1 j.plain/\Sl w0.heap.size N w 5 1 j.buf):AK w0 N g (w.setCell ⟨g,i,oN⟩ u) j:=
 h.put (l▸h.Aj.Ba i u) (IV w g i u) C o t p
def AK.Jl(h:AK w0 N g w x):Sl w0.heap.size N w 5 1 x.took/\Sl w0.heap.size N w 5 1 x.plain/\Sl w0.heap.size N w 5 1 x.buf:=⟨h.took,h.plain,h.buf⟩
def AK.Kb(h:AK w0 N g w x)(k:Nat):AK w0 N g ((w.setCell ⟨g,2,oN⟩ (oH oO k)).setCell ⟨g,1,oN⟩ (Iv k g)) {x with kind:=k}:=
 h.put ((h.Aj.Ba 2 _).Ba 1 _) ((IV w g 2 _).trans (IV _ g 1 _)) rfl rfl rfl h.Jl
def AK.lvl(h:AK w0 N g w x):∃b c,x.lv=oG (oM ⟨b,0,oN⟩) (x.lower.length+1) c/\b≠g/\b<w.heap.size/\x.lower.length+1<=c/\w0.heap.size<=b/\(∃j,Ah w b 188 j) /\
  w.ownsRow w0.heap.size 188 5 (oG (oM ⟨b,0,oN⟩) (x.lower.length+1) c) (x.lower.length+1) (x.levels.flatMap TL.cells):=by
 have i:=h.lv;have I:x.levels.length=x.lower.length+1:=by simp[TM.levels]
 rw[I]at i;rcases Bj i with⟨_,h0⟩|⟨b,c,l,p,t,C,J,j,o⟩
 ·omega
 ·rw[l]at i
  exact⟨b,c,l,o.Bb h.Aj nY,t,C,p,⟨j,o⟩,i⟩
def AK.ES(h:AK w0 N g w x){b:Nat}(p:x.lv=oG (oM ⟨b,0,oN⟩) (x.lower.length+1) c)(j:Nat)(o:j<5):oT w ⟨b,x.lower.length*5+j,oN⟩=x.top.cells[j]?/\w.frozen? ⟨b,x.lower.length*5+j,oN⟩=false:=by
 obtain⟨t,C,i,_,_,_,_,_,l⟩:=h.lvl;rw[p]at i;cases i
 refine⟨?_,GD l _⟩;rw[Bh l _ nX,CP TL.cells 5 TL.len x.levels x.lower.length j (by simp[TM.levels]) o];simp[TM.levels]
def AK.M5(h:AK w0 N g w x){b:Nat}(P:x.lv=oG (oM ⟨b,0,oN⟩) (x.lower.length+1) c)(j:Nat)(hj:j<5)(u:oV)(t:TL)(ht:x.top.cells.set j u=t.cells)(hp:t.place=x.top.place)
  (T:Sl w0.heap.size N w 53 5 t.parts/\Sl w0.heap.size N w 5 1 t.lit):AK w0 N g (w.setCell ⟨b,x.lower.length*5+j,oN⟩ u) {x with top:=t}:=by
 obtain⟨b',c',I,a0,_,_,U,⟨a3,a1⟩,ho⟩:=h.lvl;rw[P]at I;cases I
 have C:=IV w b (x.lower.length*5+j) u;have i:Up w (w.setCell ⟨b,x.lower.length*5+j,oN⟩ u):=.row C fun b e=>by cases e;exact⟨_,_,a1,nY,nY⟩
 have a2:(x.lower.flatMap TL.cells).length=x.lower.length*5:=KU TL.cells 5 TL.len x.lower;have R:=Ge ho (x.lower.length*5+j) nX u;rw[show x.levels=x.lower++[x.top] from rfl,List.flatMap_append,List.flatMap_singleton,List.set_append,if_neg nX,a2,Nat.add_sub_cancel_left,ht,show x.lower.flatMap TL.cells++t.cells=(x.lower++[t]).flatMap TL.cells by simp]at R;refine⟨h.Aj.grown C (fun e=>a0 (Option.some.inj e).symm),h.base,JT h.frame h.le C (fun b e=>by cases e;exact U),?_,h.n,h.took.up i (.inl rfl) (Ay _),h.plain.up i (.inl rfl) (Ay _),h.buf.up i (.inl rfl) (Ay _),fun l p=>?_,?_⟩
 ·rw[show (TM.levels {x with top:=t}).length=x.lower.length+1 by simp[TM.levels]]
  show World.ownsRow _ _ _ _ x.lv _ _;rw[P];exact R
 ·simp only[TM.levels,mA,mS]at p
  rcases p with p|rfl
  ·have:=h.EU l (by simp[TM.levels,p])
   exact⟨this.1.up i (.inr rfl) (Ay _),this.2.up i (.inl rfl) (Ay _)⟩
  ·exact⟨T.1.up i (.inr rfl) (Ay _),T.2.up i (.inl rfl) (Ay _)⟩
 ·have o:=h.zero
  simp only[TM.levels]at o ⊢;cases J:x.lower with
  | nil=>rw[J]at o;simpa [hp] using o
  | cons a l=>rw[J]at o;simpa using o
end
def QF:(Tryz.prog.info? 5).map (fun i=>(i.zero,i.size,i.bytes))=oM (oM (oH .u8 0),1,1):=by kernel_rfl
def WL:El Tryz.prog 69 5 1 1:=El.of underlying69 QF rfl nY
def Pd{m:Nat}{src:oV}(P:Sl B N w 5 1 (oG A n c))(J:Be w src m 1 news)(C:∀u∈news,Fit 5 u)(I:0<m)(R:n+m<=2000000)(t:B<=w.heap.size):JL Tryz.prog w 69 5 1 1 B n c m A src:=
 ⟨fun T=>Sl.app WL (fun i z l o=>by
  have h:=QF;rw[l]at h;simp only[Option.map_some,Option.some.injEq,Prod.mk.injEq]at h;rw[o]at h;obtain⟨p,_⟩:=h;cases p
  intro u j;simp[Value.cells]at j;subst j;exact fun _=>⟨0,rfl⟩) (.inl rfl) P J C I oB nX t⟩
def Sl.src(h:Sl B N w 5 1 (oG A n c)):∃news,Be w (oG A n c) n 1 news/\∀u∈news,Fit 5 u:=by
 obtain⟨_,_,_,p,_,t⟩:=h;cases p
 rcases t with⟨rfl,rfl,rfl⟩|⟨b,l,rfl,P,I,U,R,T,J⟩
 ·exact⟨[],⟨oA,.inl ⟨rfl,rfl,rfl⟩⟩,oA⟩
 ·have o:∀u∈l.toList.take n,Fit 5 u:=fun u i=>J u (List.mem_of_mem_take i)
  refine⟨l.toList.take n,⟨fun u i=>?_,.inr ⟨_,_,rfl,oC,fun j u i=>?_⟩⟩,o⟩
  ·obtain⟨k,rfl⟩:=o u i rfl
   rfl
  ·have C:(⟨b,0,oN⟩:Addr).add j=⟨b,j,oN⟩:=by unfold Addr.add;split<;>simp_all
   rw[List.getElem?_take]at i;split at i
   ·rw[C,I.cell];simpa using i
   ·cases i
def Sl.mono(h:Sl B N w e size v)(o:N<=M):Sl B M w e size v:=by obtain⟨A,n,c,i,j,l⟩:=h;exact⟨A,n,c,i,AW j o,l⟩
section
variable {w0 w:oU} {N g:Nat} {x:TM}
def QR(i:∃u,oT w ⟨g,1,oN⟩=oM u)(j:∃u,oT w ⟨g,2,oN⟩=oM u)(p:w.frozen? ⟨g,1,oN⟩=false)(t:w.frozen? ⟨g,2,oN⟩=false)(k:Nat)(o:k<=17) :
  Calls Tryz.prog 45 #[oI (oM ⟨g,0,oN⟩),oH oO k] w fun e w'=>e=oQ (oI (oM ⟨g,0,oN⟩))/\w'=(w.setCell ⟨g,2,oN⟩ (oH oO k)).setCell ⟨g,1,oN⟩ (Iv k g):=by
 obtain⟨u1,i⟩:=i;obtain⟨u2,j⟩:=j;have l:k=0\/k=1\/k=2\/k=3\/k=4\/k=5\/k=6\/k=7\/k=8\/k=9\/k=10\/k=11\/k=12\/k=13\/k=14\/k=15\/k=16\/k=17:=by omega
 clear o;rcases l with rfl|rfl|rfl|rfl|rfl|rfl|rfl|rfl|rfl|rfl|rfl|rfl|rfl|rfl|rfl|rfl|rfl|rfl;all_goals
  go_enter func45,ntmps45
  go_wp2;go_ret;exact⟨rfl,rfl⟩
def KP(h:AK w0 N g w x)(k:Nat)(j:k<=17) :
  Calls Tryz.prog 45 #[oI (oM ⟨g,0,oN⟩),oH oO k] w fun e w'=>e=oQ (oI (oM ⟨g,0,oN⟩))/\AK w0 N g w' {x with kind:=k}:=
 (QR ⟨_,h.Aj.cell 1⟩ ⟨_,h.Aj.cell 2⟩ (h.Aj.frozen 1) (h.Aj.frozen 2) k j).mono fun _ _ i=>⟨i.1,i.2▸h.Kb k⟩
def Dd(h:AK w0 N g w x)(k:Nat)(l:k<=17) :
  Calls Tryz.prog 114 #[oI (oM ⟨g,0,oN⟩),oH oO k] w fun e w'=>e=oQ (oH oO 0)/\AK w0 N g w' {x with kind:=k}:=by
 go_enter func114,ntmps114
 go_wp2_with fail
 refine(KP h k l).mono ?_;rintro e w' ⟨rfl,i⟩;have j:=Hd i;clear i;go_wp2;go_ret;exact⟨rfl,j.out⟩
def Jp(h:AK w0 N g w x) :
  Calls Tryz.prog 111 #[oI (oM ⟨g,0,oN⟩)] w fun e w'=>e=oQ (oH oO 3)/\AK w0 N g w' {x with kind:=17}:=by
 go_enter func111,ntmps111
 go_wp2_with fail
 refine(KP h 17 nX).mono ?_;rintro e w' ⟨rfl,i⟩;have j:=Hd i;clear i;go_wp2;go_ret;exact⟨rfl,j.out⟩
def KJ(h:AK w0 N g w x){b:Nat}(i:x.lv=oG (oM ⟨b,0,oN⟩) (x.lower.length+1) c)(P:N<=1000000) :
  Calls Tryz.prog 110 #[oI (oM ⟨g,0,oN⟩)] w fun e w'=>e=oQ (oI (oM ⟨b,x.lower.length*5,oN⟩))/\∃m,w'=w.drewN m:=by
 obtain⟨o,p,j,t,C,I,_,_,l⟩:=h.lvl;rw[i]at j;cases j
 have h0:=h.Aj.cell 0;simp only[TM.cells,List.getElem?_toArray,List.getElem?_cons_zero,i]at h0;have J:=h.n;generalize x.lower.length=n at *;clear h l i;go_enter func110,ntmps110
 go_wp2;go_quiet (fail)
 go_wp2;go_ret;exact⟨rfl,_,rfl⟩
def Ki(w:oU)(n:Nat):Below w.heap.size w (w.drewN n):=⟨rfl,rfl,rfl,Ay _,fun _ _=>rfl⟩
def IN(x:TM):x.top∈x.levels:=by simp[TM.levels]
def ND(h:AK w0 N g w x){VA:Option Addr}{l Vc:Nat}(hv:Sl w0.heap.size 2 w 5 1 (oG VA l Vc))(hl:0<l/\l<=2)(hN:N<=1000000) :
  Calls Tryz.prog 116 #[oI (oM ⟨g,0,oN⟩),oG VA l Vc] w fun e w'=>e=oQ (.tuple #[])/\∃x',AK w0 (N+2) g w' x'/\x'.kind=x.kind:=by
 obtain⟨b,c,a2,al,an,ao,-⟩:=h.lvl;have HT:=Hd (KJ h a2 hN);have HV:=Hd hv;have U:=Hd a2;have H0:=Hd h;clear h hv a2;go_enter func116,ntmps116
 go_wp2_with fail
 refine HT.out.mono ?_;rintro e au ⟨rfl,m,rfl⟩;have j:=H0.out.below (Ki w m);have a3:=HV.out.up (.below (Ki w m)) (.inl rfl) (Ay _);generalize w.drewN m=w1 at *;have e0:=(j.ES U.out 2 nX).1;simp only[TL.cells,List.getElem?_cons_zero,List.getElem?_cons_succ]at e0;have I:=(j.EU _ (IN x)).2;obtain⟨LA,Ln,Lc,a1,aj,-⟩:=id I;rw[a1]at e0 I;have i:=j.took;obtain⟨TA,Tn,Tc,a4,ak,-⟩:=id i;obtain⟨aq,J,P⟩:=a3.src;have a8:=Hd (Pd I J P hl.1 nX j.le);have HM:=Hd j;have ag:=Hd a3;have ae:=Hd I
 have a0:=Hd a4;have aa:=Hd a1;clear j a3 I a1 a4 J P i HT;go_wp2_with (first
  | (
   at_builtin;refine Hu a8.out (.tmp 11) (.tmp 12) rfl rfl rfl rfl ?_;intro A k w2 R t T r4
   have C:=HM.out.app (M:=N+2) (.inl rfl) ae.out t T nX;have hk:=C.ES U.out 2 nX;simp only[TL.cells,List.getElem?_cons_zero,List.getElem?_cons_succ,aa.out]at hk;obtain⟨k0,k1⟩:=hk;have o:=C.M5 U.out 2 nX (oG A (Ln+l) k) {x.top with lit:=oG A (Ln+l) k} rfl rfl ⟨(C.EU _ (IN x)).1,R.mono nX⟩;have q3:=o.Aj.cell 3;have q4:=o.Aj.frozen 3;simp only[TM.cells,List.getElem?_toArray,List.getElem?_cons_zero,List.getElem?_cons_succ,a0.out]at q3;have a6:=ag.out.up t (.inl rfl) (Ay _);have a5:Up w2 (w2.setCell ⟨b,x.lower.length*5+2,oN⟩ (oG A (Ln+l) k)):=by
    obtain⟨b',c',h1,_,_,_,_,⟨ai,ah⟩,_⟩:=C.lvl;rw[U.out]at h1;cases h1
    exact .row (IV w2 b _ _) fun b e=>by cases e;exact⟨_,_,ah,nY,nY⟩
   have a7:=a6.up a5 (.inl rfl) (Ay _);obtain⟨ar,J,P⟩:=a7.src;have i:=o.took;simp only[a0.out]at i;have a9:=Hd (Pd i J P hl.1 nX o.le);have af:=Hd i;have ab:=Hd o;clear R t T r4 C o a6 a7 a5 J P i)
  | (
   at_builtin;refine Hu a9.out (.tmp 20) (.tmp 21) rfl rfl rfl rfl ?_;intro A3 k3 w3 R t T r4
   have p:=ab.out.app (M:=N+2) (.inl rfl) af.out t T (Ay _);have k4:=p.Aj.cell 3;have k5:=p.Aj.frozen 3;simp only[TM.cells,List.getElem?_toArray,List.getElem?_cons_zero,List.getElem?_cons_succ,a0.out]at k4;have ad:=Hd (p.set 3 (oG A3 (Tn+l) k3) {x with top:={x.top with lit:=oG A (Ln+l) k},took:=oG A3 (Tn+l) k3} rfl rfl rfl rfl ⟨R.mono nX,p.plain,p.buf⟩);clear R t T r4 p))
 go_end0
 exact⟨rfl,_,ad.out,rfl⟩
end
def Tryz.dY:(Tryz.prog.info? 53).map (fun i=>(i.zero,i.size,i.bytes))=oM (oM (.agg #[oH oO 0,oJ ⟨#[]⟩,oJ ⟨#[]⟩,oG oN 0 0,oG oN 0 0]),5,88):=by kernel_rfl
def cM:El Tryz.prog 50 53 5 88:=El.of underlying50 Tryz.dY rfl nY
def Ie:List oV:=[oH oO 0,oJ ⟨#[]⟩,oJ ⟨#[]⟩,oG oN 0 0,oG oN 0 0]
def Q1{W:oU}{z:Nat}(l:Sl B N w 53 5 (oG A n c))(i:Below w.heap.size w W)(o:Ah W z 53 Ie.toArray)(p:n<=1000000)(j:B<=w.heap.size):JL Tryz.prog W 50 53 5 88 B n c 1 A (oG (oM ⟨z,0,oN⟩) 1 1):=
 ⟨fun t=>Sl.app cM (fun _ _ _ _ u _ e=>absurd e nY) (.inr rfl) (l.up (.below i) (.inr rfl) (Ay _)) (Be.Aj (c:=1) o rfl (by simp[Ie,Value.oneCell'])) (fun u _ e=>absurd e nY) nX oB nX (AW j i.size)⟩
theorem aH{l:List oV}(h:∀u∈l,Fit 5 u):∃L:List UInt8,l=L.map fun c=>Value.int .u8 c.toNat:=by
 induction l with
 | nil=>exact⟨[],rfl⟩
 | cons a l j=>
  obtain⟨L,rfl⟩:=j fun u i=>h u (List.mem_cons_of_mem _ i)
  obtain⟨c,rfl⟩:=h a (List.mem_cons_self ..) rfl;exact⟨c::L,rfl⟩
def LL{src i:TypeId}(J:P.underlying src=oM (.slice e))(C:P.underlying e=oM (.int .u8))(t:P.underlying i=oM .string)(h:Sl B N w 5 1 (oG A n c)) :
  ∃s:ByteArray,s.size=n/\∀y,Below w.heap.size w y->(convert src i (oG A n c)).run P y=.ok (oJ s) y:=by
 obtain⟨_,_,_,R,_,T⟩:=h;cases R
 rcases T with⟨rfl,rfl,rfl⟩|⟨b,l,rfl,hb,p,a4,a2,a3,hf⟩
 ·exact⟨⟨#[]⟩,rfl,fun y _=>run_convert_bytes_nil y src e J C 0 0 i t⟩
 ·obtain⟨L,o⟩:=aH fun u hu=>hf u (List.mem_of_mem_take (i:=n) hu)
  have a1:n=L.length:=by have:=congrArg List.length o;simp at this;omega
  subst a1;refine⟨⟨L.toArray⟩,by simp[ByteArray.size],fun y hy=>run_convert_bytes_back (P:=P) y src i e ⟨b,0,oN⟩ c L J C t fun j I=>?_⟩;have a0:(⟨b,0,oN⟩:Addr).add j=⟨b,j,oN⟩:=by unfold Addr.add;split<;>simp_all
  have U:l[j]?=(l.toList.take L.length)[j]?:=by rw[List.getElem?_take,if_pos I];simp
  rw[a0,(p.below hy p.lt).cell,U,o];simp[I]
def Er(w:oU)(i o:Nat)(v0 v1 v2 v3 v4:oV):oU:=
 ((((w.setCell ⟨i,o,oN⟩ v0).setCell ⟨i,o+1,oN⟩ v1).setCell ⟨i,o+2,oN⟩ v2).setCell ⟨i,o+3,oN⟩ v3).setCell ⟨i,o+4,oN⟩ v4
section
variable {w0 w:oU} {N g:Nat} {x:TM}
def iT{j:Nat}{p:Array oV}(J:Ah w j 53 p)(i:Nat)(u:oV):Up w (w.setCell ⟨j,i,oN⟩ u):=fun b c e R l f=>by
 by_cases o:b=j
 ·subst o
  refine⟨_,l.Ba i u,oA,fun v _ t=>?_⟩;have C:=Option.some.inj (J.symm.trans l);injection C with P I;exact absurd (I.trans t) nY
 ·exact⟨c,l.Bz (p:=⟨j,i,oN⟩) o u,rfl,f⟩
def AK.Mo{C:oU}{j i:Nat}{u:oV}(h:(∃l:Array oV,Ah w j 53 l)/\w0.heap.size<=j/\Up C w/\AK w0 N g w x):(∃l:Array oV,Ah (w.setCell ⟨j,i,oN⟩ u) j 53 l)/\w0.heap.size<=j/\Up C (w.setCell ⟨j,i,oN⟩ u)/\AK w0 N g (w.setCell ⟨j,i,oN⟩ u) x:=by obtain⟨⟨l,o⟩,p,I,h⟩:=h;have t:=iT o i u;exact⟨⟨_,o.Ba i u⟩,p,I.trans t,h.grown t (IV w j i u) (fun e=>h.Aj.Bb o nY (Option.some.inj e)) (Du h.lv o nY) (fun b e=>by cases e;exact p) (Ay _)⟩
theorem AK.Er{i o:Nat}{v0 v1 v2 v3 v4:oV}(h:(∃j:Array oV,Ah w i 53 j)/\w0.heap.size<=i/\AK w0 N g w x):Up w (Er w i o v0 v1 v2 v3 v4)/\AK w0 N g (Er w i o v0 v1 v2 v3 v4) x:=
 (AK.Mo (AK.Mo (AK.Mo (AK.Mo (AK.Mo ⟨h.1,h.2.1,.below (Below.refl _ w),h.2.2⟩))))).2.2
def Ve(w:oU){i k:Nat}(o:Nat)(h:k≠i)(v0 v1 v2 v3 v4:oV):(Go.Proofs.YtendpobbjjaopaaGreatDoor.Er w i o v0 v1 v2 v3 v4).heap[k]?=w.heap[k]?:=by unfold Go.Proofs.YtendpobbjjaopaaGreatDoor.Er;rw[Below.heap_setCell _ _ _ _ h,Below.heap_setCell _ _ _ _ h,Below.heap_setCell _ _ _ _ h,Below.heap_setCell _ _ _ _ h,Below.heap_setCell _ _ _ _ h]
def TB{l:oU}{k:Nat}(J:Sl B N l 53 5 (oG A (n+1) k)) :
  ∃i,A=oM ⟨i,0,oN⟩/\B<=i/\(∃o:Array oV,Ah l i 53 o)/\(∀j,l.frozen? ⟨i,j,oN⟩=false)/\∀j,j<5->∃u,oT l ⟨i,n*5+j,oN⟩=oM u:=by
 obtain⟨_,_,_,t,_,C⟩:=J;cases t
 rcases C with⟨_,h0,_⟩|⟨b,o,rfl,I,p,U,P,R,_⟩
 ·omega
 ·refine⟨b,rfl,I,⟨o,p⟩,p.frozen,fun j T=>?_⟩
  rw[p.cell];exact⟨_,Array.getElem?_eq_getElem nX⟩
end
