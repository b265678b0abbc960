/- What a table says. -/
import Derived.Test.YtlogpnoioimhjaaGreatDoorXbb
import Derived.Laws.Append
import Derived.Laws.AppendOwn
set_option linter.all false
set_option maxRecDepth 100000
set_option maxHeartbeats 16000000
namespace Go.Proofs.YtlogpnoioimhjaaGreatDoor
open Go.RowKit Go.Proofs.Tryz
variable{v:Value}{c g n x:Nat}{E:List (List It)}{K:List (List (Nat×Nat))}{l:List Nat}{o:Oper}{a:Act}{Q:Exit->Act->World->Prop}{j:Array Oper}{xs:List Value}{ad:Addr}
def aH{w:World}{g:Gz}(h:E0 (fun b=>b<w.heap.size) w v g E K){i t:Nat}(p:i<E.length)(ht:t<=g.nt) :
  () 73 #[v,i,t] w fun e w'=>e=.returned (.agg #[.int .i64 (AZ g E K i t).1,.int .i64 (AZ g E K i t).2])/\Below w w w':=by
 obtain⟨J,cr,C,U,I,cg,rfl,-,j,-⟩:=h.open_;obtain⟨b,off,P,cx,rfl,a1,-,T,l⟩:=j i p;have o:(Ev g E K i)[t]?=some (AZ g E K i t):=by unfold Ev;rw[pG,List.getElem?_range (by omega)];rfl
 obtain⟨R,a5,rfl,a2,-,d0,d1⟩:=l.at_ o;generalize AZ g E K i t=x at *;have a0:(i:Int)<(E.length:Int):=by omega
 have a4:(t:Int)<(g.nt:Int)+1:=by omega
 have a3:(0:Int)<=(g.nt:Int)+1:=by omega
 clear h j l o;generalize E.length=n at *;generalize g.R.length+1=nr at *;generalize g.nn=nn at *;go_enter func73,ntmps73
 go_wp2;refine bodyPost_ret (v:=.agg #[x.1,x.2]) (by simp[results,Tryz.f73,go_sem]) rfl ?_;exact⟨rfl,(AG w _).alloc (by simp) _⟩
def bO{w:World}{g:Gz}(h:E0 (fun b=>b<w.heap.size) w v g E K){i s:Nat}(I:i<E.length)(P:g.nt<s)(p:s<=g.top)(hn:g.nt<=1000)(a4:g.nn<=1000) :
  () 75 #[v,i,s] w fun e w'=>e=.returned (.int .i64 (Dx (E.getD i []) s))/\Below w w w':=by
 obtain⟨U,cr,R,ca,T,cg,rfl,-,-,l⟩:=h.open_;obtain⟨b,off,Ax,cx,rfl,a2,-,c0,o⟩:=l i I;obtain⟨k,rfl⟩:∃k,s=g.nt+1+k:=⟨s-g.nt-1,by omega⟩
 have J:k<g.nn:=by unfold Gz.top at p;omega
 have C:(EN g E i)[k]?=some (Dx (E.getD i []) (g.nt+1+k)):=by unfold EN;rw[pG,List.getElem?_range J];rfl
 obtain⟨b2,a5,rfl,-,a3,d0⟩:=o.at_ C;generalize Dx (E.getD i []) (g.nt+1+k)=x at *;have a0:(i:Int)<(E.length:Int):=by omega
 have a1:(k:Int)<(g.nn:Int):=by omega
 have t:((g.nt+1+k:Nat):Int)=(g.nt:Int)+1+k:=by omega
 clear h l o C;generalize E.length=n at *;generalize g.R.length+1=nr at *;generalize g.nn=nn at *;rw[t];clear t P p;generalize g.nt=j at *;go_enter func75,ntmps75
 have e1:(j:Int)+1+k-j-1=k:=by omega
 have e2:¬((j:Int)+1+k<=j):=by omega
 go_wp2;go_ret;exact⟨rfl,AG w _⟩
def Ha(w:World)(v:Value)(l:List Nat):Prop:=(v=.slice none 0 0/\l=[])\/∃b,v=.slice (some ⟨b,0,none⟩) l.length l.length/\b<w.heap.size/\∀k x,l[k]?=some x->w.cell? ⟨b,k,none⟩=some (AV x)
def U9{w:World}{ty:TypeId}(h:Ha w v l)(I:w.cell? (g,0)=some (AV x))(hl:l.length<=100000) :
  ∃o w',(Builtin.append_ #[43,43] ty #[v,.slice (g,0) 1 c]).run Tryz.prog w=.ok (.slice (w,0) (l.length+1) o) w' /\
   w'.ownsRow w 3 1 (.slice (w,0) (l.length+1) o) (l.length+1) ((l++[x]).map AV)/\Below w w w':=by
 rcases h with⟨rfl,rfl⟩|⟨b,rfl,hb,R⟩
 ·obtain⟨A,o,w',t,J,r2,r3⟩:=No (P:=Tryz.prog) (ty:=ty) Iq (base:=w.heap.size) (n:=0) (m:=1) (N:=1) (v:=.slice none 0 0) (src:=.slice (g,0) 1 c) (xs:=[]) (news:=[AV x]) ⟨rfl,.inl ⟨rfl,rfl⟩⟩
   ⟨by simp[Value.oneCell',AV],.inr ⟨_,_,rfl,rfl,fun j v i=>by
    cases j with
    | zero=>simp only[List.getElem?_cons_zero,Option.some.injEq]at i;rw[<-i];simpa [Addr.add] using I
    | succ j=>simp at i⟩⟩ rfl (by decide) (by decide) (AF _)
  have P:A=some ⟨w.heap.size,0,none⟩:=by
   rcases Bi J with⟨_,h0⟩|⟨b,c2,e,_⟩
   ·omega
   ·cases e
    rcases r3.2 with p|p
    ·cases p
    ·cases p;rfl
  subst P;exact⟨o,w',t,by simpa using J,r2.below (AF _)⟩
 obtain⟨ht,⟨a1,z,T,hz,C,U,a0⟩,hp⟩:=Iq;have ha:∀j,((b,0):Addr).add j=⟨b,j,none⟩:=fun j=>by simp[Addr.add];intro h;exact h.symm
 have t:=run_append_grow (P:=Tryz.prog) w 43 ty 3 a1 z ht T hz (b,0) l.length l.length (l.map AV) (by rw[lM,C,Nat.mul_one])
  (fun j v i=>by rw[pG]at i;obtain⟨y,hy,rfl⟩:=Option.map_eq_some_iff.1 i;rw[ha];exact R j y hy)
  (g,0) 1 c [AV x] (by rw[C];rfl)
  (fun j v i=>by
   cases j with
   | zero=>simp only[List.getElem?_cons_zero,Option.some.injEq]at i;rw[<-i];simpa [Addr.add] using I
   | succ j=>simp at i)
  (by omega) (by omega) (growslice_fits (by omega) (by rw[U];omega))
 refine⟨_,_,t,⟨by simp,.inr ⟨w.heap.size,_,_,rfl,AF _,heap_alloc_new w.drew _,grownCap_ge w _ _ _,grownCap_le_maxLen w _ _ _ (by unfold maxLen;omega),?_,?_⟩⟩,(Below.refl _ w).drew.trans (by simpa using AG w.drew _)⟩
 ·have:=grownCap_ge w (l.length+1) l.length 3
  simp only[Array.size_append,List.size_toArray,size_zeroCells,a0,lM,List.length_cons,List.length_nil,Nat.mul_one];omega
 ·simp only[Array.toList_append,Nat.mul_one]
  rw[By,show l.length+1=(l.map AV++[x].map AV).length by simp];exact List.take_left
def wp_cut{w:World}{K:Act->World->Prop}(s y:Operand)
  (t:o.op=.call {callee:=.builtin .append,args:=#[s,y],argTypes:=#[43,43]}) (I:a.eval s=v) (P:a.eval y=.slice (g,0) 1 c) (h:Ha w v l) (J:w.cell? (g,0)=some (AV x)) (p:l.length<=100000)
  (j:∀i w',w'.ownsRow w 3 1 (.slice (w,0) (l.length+1) i) (l.length+1) ((l++[x]).map AV)->Below w w w'->K (a.put o.dst (.slice (w,0) (l.length+1) i)) w'):o.wp Tryz.prog a w K Q:=by
 obtain⟨i,w',C,R,T⟩:=U9 (ty:=o.type) (c:=c) h J p;unfold Oper.wp execOp;simp only[t,resolve,invoke,builtin,Sem.run_bind,Sem.run_pure,Result.andThen_ok,List.map_toArray,List.map_cons,List.map_nil,I,P,C];exact j i w' R T
def iI{w:World}{rest:List Oper}(s y:Operand)(C:o.guard=none)
  (J:o.op=.call {callee:=.builtin .append,args:=#[s,y],argTypes:=#[43,43]}) (P:a.eval s=v) (T:a.eval y=.slice (g,0) 1 c) (h:Ha w v l) (R:w.cell? (g,0)=some (AV x)) (I:l.length<=100000)
  (p:∀i w',w'.ownsRow w 3 1 (.slice (w,0) (l.length+1) i) (l.length+1) ((l++[x]).map AV)->Below w w w'->wpList Tryz.prog j Q rest (a.put o.dst (.slice (w,0) (l.length+1) i)) w'):wpList Tryz.prog j Q (o::rest) a w:=
 wpList_plain C fun _ t=>wp_cut s y J P T h R I fun i w' U r2=>t _ _ (p i w' U r2)
def Xy{w:World}{K:Act->World->Prop}{D:Prop}(s y:Operand)(t:o.guard=none)
  (I:o.op=.call {callee:=.builtin .append,args:=#[s,y],argTypes:=#[43,43]}) (J:a.eval s=v) (T:a.eval y=.slice (g,0) 1 c) (h:Ha w v l) (R:w.cell? (g,0)=some (AV x)) (C:l.length<=100000)
  (p:∀i w',w'.ownsRow w 3 1 (.slice (w,0) (l.length+1) i) (l.length+1) ((l++[x]).map AV)->Below w w w'->K (a.put o.dst (.slice (w,0) (l.length+1) i)) w') :
  if Region.wanted o (yielded j a.tmps)=true then Oper.wp Tryz.prog o a w K Q else D:=by
 have P:Region.wanted o (yielded j a.tmps)=true:=by simp[Region.wanted,t]
 rw[if_pos P];exact wp_cut s y I J T h R C p
structure Nd where
 sym:Nat
 leaf:Int
 Bo:Int
 kids:List Nat
 jW:Bool
 below:Bool
variable{p:Nd×Value}
def Nd.cells(p:Nd×Value):List Value:=[.int .i64 p.1.sym,.int .i64 p.1.leaf,.int .i64 p.1.Bo,p.2,.bool p.1.jW,.bool p.1.below]
def SP:El Tryz.prog 100 155 6 56:=El.of (z:=.agg #[.int .i64 0,.int .i64 0,.int .i64 0,.slice none 0 0,.bool false,.bool false]) underlying100 (by kernel_rfl) (by kernel_rfl) (by decide)
structure Ee(w0 w:World)(rb:Nat)(T:List (Nd×Value)):Prop where
 box:∃av,Ah w rb 102 #[av]/\w.ownsRow w0 155 6 av T.length (T.flatMap Nd.cells)
 kids:∀p∈T,w.ownsRow w0 3 1 p.2 p.1.kids.length (p.1.kids.map AV)
 lo:w0.heap.size<=rb
 B7:T.length<=100000
def Uk(T:List (Nd×Value))(v:Value):Prop:=∀p∈T,∀b,p.2.ownBlock=some b->v.ownBlock≠some b
structure Cw(w0 w:World)(eb tb rb:Nat)(st ns:List Nat)(T:List (Nd×Value))(over:Bool)(steps:Nat)(sv nv:Value):Prop where
 box:Ah w eb 72 #[(tb,0),sv,nv,(rb,0),.bool over,steps]
 tree:Ee w0 w rb T
 G5:w.ownsRow w0 3 1 sv st.length (st.reverse.map AV)
 nodes:w.ownsRow w0 3 1 nv ns.length (ns.reverse.map AV)
 Kb:Uk T sv
 JH:Uk T nv
 ap:∀b,sv.ownBlock=some b->nv.ownBlock≠some b
 lo:w0.heap.size<=eb
 GL:Fx w0 tb
 base:Below w0 w0 w
 lt:tb<w0.heap.size
 B7:st.length<=10000/\ns.length<=10000/\steps<=1000000
variable{w:World}{rb:Nat}{T:List (Nd×Value)}
def Ee.later{l w':World}(h:Ee l w rb T)(i:Below w w w'):Ee l w' rb T:=by obtain⟨o,j,t⟩:=h.box;exact⟨⟨o,j.below i j.lt,AS t i⟩,fun p C=>AS (h.kids p C) i,h.lo,h.B7⟩
def Cw.later{t w':World}{j tb:Nat}{st:List Nat}{o:Bool}{steps:Nat}{p nv:Value}(h:Cw t w j tb rb st l T o steps p nv)(i:Below w w w'):Cw t w' j tb rb st l T o steps p nv:=
 ⟨h.box.below i h.box.lt,h.tree.later i,AS h.G5 i,AS h.nodes i,h.Kb,h.JH,h.ap,h.lo,h.GL,h.base.trans (i.mono h.base.size),h.lt,h.B7⟩
section
variable (g:Gz) (E:List (List It)) (K:List (List (Nat×Nat)))
def FM(u A:Nat):Option Nat:=if 0<=Dx (E.getD u []) A/\Dx (E.getD u []) A<(E.length:Int) then some (Dx (E.getD u []) A).toNat else none
def Fh(t:Nat):Nat->List Nat->Option It
 | 0,_=>none
 | _+1,[]=>none
 | f+1,s::i=>if (AZ g E K s t).1=2 then(if (AZ g E K s t).2<g.R.length/\(s::i).length<=10000 then match (s::i).drop (g.right (AZ g E K s t).2).length with
  | []=>none
  | u::r=>match FM E u (g.Bo (AZ g E K s t).2).1 with
   | none=>none
   | some q=>Fh t f (q::u::r)
  else none) else some (AZ g E K s t)
end
def Ce{w':World}{B l:Nat}{T:List TypeId}{e:TypeId}{sz:Nat}(h:w.ownsRow B e sz v n xs)(I:AI l T w w')(C:e ∉ T):w'.ownsRow B e sz v n xs:=by
 refine⟨h.1,?_⟩;rcases h.2 with P|⟨g,cap,o,rfl,p,i,R⟩
 ·exact .inl P
 ·have J:=(aG.1 i).1
  exact .inr ⟨g,cap,o,rfl,p,(I.block g J (.inr fun U t m j=>by rw[i]at j;cases j;exact C)).trans i,R⟩
def Pu{tb:Nat}(h:Fx w tb)(C:tb<w.heap.size):() 11 #[(tb,0)] w fun e w'=>∃j rb I,e=.returned (.pointer (some ⟨j,0,none⟩))/\Cw w w' j tb rb [0] [] [] false 0 I (.slice none 0 0)/\Below w w w':=by
 have t:=Hd h;clear h;have o:Hid (∀y,() 31 #[] y fun e w'=>e=.returned (y,0)/\w'=y.alloc (.cells #[.slice none 0 0] 102)):=Hd (fun y=>by
  go_enter func31,ntmps31
  go_wp2;go_ret;exact⟨rfl,rfl⟩)
 go_enter func11,ntmps11
 go_wp2_with (go_at_call 31;refine(o _).mono ?_;rintro e J ⟨rfl,rfl⟩)
 go_ret;have l:Below w w (((w.alloc (.cells #[.int .i64 0] 3)).alloc (.cells #[.slice none 0 0] 102)).alloc (.cells #[(tb,0),.slice (w,0) 1 1,.slice none 0 0,(w.heap.size+1,0),.bool false,.int .i64 0] 72)):=((AG w _).alloc (by simp) _).alloc (by simp;omega) _;refine⟨_,_,_,rfl,⟨Ah.newAt (by simp),⟨⟨_,Ah.alloc (Ah.newAt (by simp)) _,⟨rfl,.inl ⟨rfl,rfl⟩⟩⟩,fun p i=>(by simp at i),by omega,by simp⟩,NW (XS:=[AV 0]) (Ah.alloc (Ah.alloc (Ah.new w 3 #[.int .i64 0]) _) _) (AF _) rfl (by decide),⟨rfl,.inl ⟨rfl,rfl⟩⟩,fun p i=>(by simp at i),fun p i=>(by simp at i),fun b _ h=>(by cases h),(by omega),t,l,C,by decide⟩,l⟩
def Ys{l:World}(h:Ee l w rb T):() 133 #[(rb,0)] w fun e w'=>e=.returned T.length/\w'=w:=by
 obtain⟨p,i,j⟩:=h.box;obtain⟨A,c,rfl⟩:=CG j;have o:=Ah.cell i 0;have C:=i.lt;simp at o;have t:=h.B7;clear h i j;go_enter func133,ntmps133
 go_wp2;go_ret;exact⟨rfl,rfl⟩
def Vm{o:World}(h:Ee o w rb T)(k:Nat):() 96 #[(rb,0),k] w fun e w'=>e=.returned (.bool (decide (k<T.length)))/\w'=w:=by
 have i:=Hd (Ys h);clear h;generalize T.length=n at *;by_cases j:k<n
 ·have l:(k:Int)<(n:Int):=by omega
  go_enter func96,ntmps96
  go_wp2_with (go_at_call 133;refine i.mono ?_;rintro e p ⟨rfl,rfl⟩)
  go_ret;exact⟨by rw[decide_eq_true j];rfl,rfl⟩
 ·have l:¬((k:Int)<(n:Int)):=by omega
  go_enter func96,ntmps96
  go_wp2_with (go_at_call 133;refine i.mono ?_;rintro e p ⟨rfl,rfl⟩)
  go_ret;exact⟨by rw[decide_eq_false j];rfl,rfl⟩
def Ee.push{j W i:World}(h:Ee j w rb T)(J:Below w w W)(U:W.ownsRow j 3 1 p.2 p.1.kids.length (p.1.kids.map AV)){A:Option Addr}(r1:i.ownsRow j 155 6 (.slice A (T.length+1) c) (T.length+1) (T.flatMap Nd.cells++Nd.cells p))(t:AI j [155] W i)(R:T.length+1<=100000) :
  Ee j (i.setCell (rb,0) (.slice A (T.length+1) c)) rb (T++[p])/\AI j [155,102] W (i.setCell (rb,0) (.slice A (T.length+1) c)):=by
 obtain⟨P,C,h2⟩:=h.box;have I:Ah i rb 102 #[P]:=t.Ap (C.below J C.lt) (.inr (by decide));have o:AI j [102] i (i.setCell (rb,0) (.slice A (T.length+1) c)):=(AI.refl _ _ i).EH I h.lo (by simp) 0 _;refine⟨⟨⟨.slice A (T.length+1) c,by simpa using I.Be 0 (.slice A (T.length+1) c),by simpa [List.flatMap_append] using Ce r1 o (by decide)⟩,fun q l=>?_,h.lo,by simpa using R⟩,(t.mono (AF _) (by simp)).trans (o.mono (AF _) (by simp))⟩;rcases mA.1 l with l|l
 ·exact Ce (Ce (AS (h.kids q l) J) t (by decide)) o (by decide)
 ·rw[mS.1 l]
  exact Ce (Ce U t (by decide)) o (by decide)
def Zj{o:World}(h:Ee o w rb T)(hw:o.heap.size<=w.heap.size){s l:Nat}(R:T.length<100000) :
  () 53 #[(rb,0),s,l] w fun e w'=>e=.returned T.length/\Ee o w' rb (T++[(⟨s,l,-1,[],true,false⟩,.slice none 0 0)])/\AI o [155,102] w w':=by
 have HT:=Hd h;obtain⟨av,j,I⟩:=h.box;obtain⟨A,c,rfl⟩:=CG I;have x0:=Ah.cell j 0;have x1:=Ah.frozen j 0;have xl:=j.lt;simp at x0;have P:=Hd I;have i:=Hd j;obtain⟨n,J⟩:∃n,T.length=n:=⟨_,rfl⟩
 rw[J]at x0 P i R ⊢;have t:=Hd J;clear h j I J;go_enter func53,ntmps53
 go_wp2_with (
   at_builtin;refine Dc SP (.tmp 13) (.tmp 18) rfl rfl (base:=o.heap.size) (n:=n) (m:=1) (N:=n+1) (v:=.slice A n c) (src:=.slice (w,0) 1 1) (xs:=T.flatMap Nd.cells) (news:=Nd.cells (⟨s,l,-1,[],true,false⟩,.slice none 0 0)) rfl rfl (AS P (AG w _)) (AY.Ap (c:=1) (Ah.new w 155 _) rfl (by simp[Nd.cells,Value.oneCell'])) rfl (by unfold maxLen;omega) (by omega) (by simp;omega) ?_
   intro A2 c2 w2 U p r3;have C:=Hd (HT.push (AG w _) (p:=(⟨s,l,-1,[],true,false⟩,.slice none 0 0)) ⟨rfl,.inl ⟨rfl,rfl⟩⟩ (A:=A2) (c:=c2) (by rw[t.out];exact U) p (by rw[t.out];exact R));have y0:w2.cell? (rb,0)=some (.slice A n c):=Ah.cell (p.Ap (i.below (AG w _) i.lt) (.inr (by decide))) 0;have y1:=Ah.frozen (p.Ap (i.below (AG w _) i.lt) (.inr (by decide))) 0;rw[t.out]at C;clear U p r3)
 go_ret;exact⟨by rfl,C.1,(AI.AJ (AG w _)).trans C.2⟩
def dV(l:∀y,Below w w y->AY y (.slice (some ad) n c) n 1 xs)(T:n<=1048576) :
  () 97 #[.slice (some ad) n c] w fun e w'=>∃A j,e=.returned (.slice A n j)/\w'.ownsRow w 3 1 (.slice A n j) n xs/\Below w w w':=by
 have I:=Hd l;have J:Hid (∀y:World,y=w.alloc (.cells #[] 3)->y.ownsRow w 3 1 (.slice (w,0) 0 0) 0 []):=Hd (fun y P=>by rw[P];exact Mf (W:=w) rfl (AF _) (by decide) rfl);have U:∀(y:World) (ad:Addr) (n c:Nat),(binOp BinOp.eql 43 (.slice (some ad) n c) (.slice none 0 0)).run Tryz.prog y=.ok (.bool false) y:=fun _ _ _ _=>by kernel_rfl
 clear l;go_enter func97,ntmps97
 go_wp2_with (
   at_builtin;refine Dc Iq (.tmp 5) (.tmp 6) rfl rfl (base:=w.heap.size) (n:=0) (m:=n) (N:=n) (xs:=[]) (news:=xs) rfl rfl (J _ rfl) (I _ (DJ w _)) (by omega) (by unfold maxLen;omega) (by omega) (by simp) ?_
   intro C c2 t o p R;have i:Hid (t.ownsRow w 3 1 (.slice C n c2) n xs/\Below w w t):=Hd ⟨by simpa using o,(DJ w _).trans (p.below (by simp))⟩;clear o p R)
 go_ret;exact⟨_,_,rfl,i.1,i.2⟩
def BD.src(h:BD w (.slice (some ad) n c) l)(t:l.length=n):AY w (.slice (some ad) n c) n 1 (l.map AV):=by
 obtain⟨⟨A,I,e,p⟩,-,-⟩:=h;refine⟨fun u i=>?_,.inr ⟨ad,c,rfl,by rw[lM,t,Nat.mul_one],fun j u i=>?_⟩⟩
 ·obtain⟨x,-,rfl⟩:=List.mem_map.1 i
  rfl
 ·rw[pG]at i
  obtain⟨x,C,rfl⟩:=Option.map_eq_some_iff.1 i;simp only[Value.slice.injEq]at e;obtain⟨rfl,-,-⟩:=e;obtain⟨b,off,o,-,h⟩:=p j x C;cases o
  rw[show ((b,off):Addr).add j=⟨b,off+j,none⟩ by unfold Addr.add;split<;>simp_all];exact h
def Nd.mark(p:Nd×Value):Nd×Value:=({p.1 with below:=true},p.2)
def Er(T:List (Nd×Value))(i:List Nat):List (Nd×Value):=i.foldl (fun T k=>T.modify k Nd.mark) T
theorem KP(T:List (Nd×Value))(i:List Nat):(Er T i).length=T.length:=by
 induction i generalizing T with
 | nil=>rfl
 | cons k i j=>rw[Er,List.foldl_cons];exact(j _).trans (by simp)
def We(T:List (Nd×Value))(i:List Nat)(k:Nat):Er T (i++[k])=(Er T i).modify k Nd.mark:=by simp[Er]
theorem S6:∀(T:List (Nd×Value)) (k:Nat),k<T.length->(T.flatMap Nd.cells).set (k*6+5) (.bool true)=(T.modify k Nd.mark).flatMap Nd.cells
 | [],k,h=>by simp at h
 | p::T,0,_=>by simp[Nd.cells,Nd.mark]
 | p::T,k+1,h=>by have:=S6 T k (by simpa using h);rw[show (k+1)*6+5=k*6+5+6 by omega,List.flatMap_cons,List.modify_succ_cons,List.flatMap_cons,<-this];simp[Nd.cells]
def Uy{k:Nat}(h:T[k]?=some p){j:Nat}(i:j<6):(T.flatMap Nd.cells)[k*6+j]?=(Nd.cells p)[j]?:=by obtain⟨l,rfl⟩:=sG.1 h;exact CJ Nd.cells 6 (fun _=>rfl) T k j l i
theorem Q6{o:List Nat}(h:p∈Er T o):∃q∈T,p.2=q.2/\p.1.kids=q.1.kids:=by
 induction o generalizing T with
 | nil=>exact⟨p,h,rfl,rfl⟩
 | cons k o P=>
  rw[Er,List.foldl_cons]at h;obtain⟨q,J,t,C⟩:=P h;obtain⟨i,j⟩:=List.getElem?_of_mem J;rw[List.getElem?_modify]at j;cases l:T[i]? with
  | none=>rw[l]at j;cases j
  | some r=>
   rw[l]at j;have I:=mG l;simp only[Option.map_eq_map,Option.map_some,Option.some.injEq]at j;split at j
   ·exact⟨r,I,by rw[t,<-j];rfl,by rw[C,<-j];rfl⟩
   ·exact⟨r,I,by rw[t,<-j],by rw[C,<-j]⟩
def OM(l w:World)(rb s r:Nat)(T:List (Nd×Value))(i:List Nat)(e:Ending)(w':World):Prop:=
 e=.returned T.length/\∃j,Ee l w' rb (Er T i++[(⟨s,-1,r,i,false,false⟩,j)])/\AI l [155,102] w w'/\∀b,j.ownBlock=some b->w.heap.size<=b
def fF{U:World}{s r:Nat}(h:Ee U w rb T)(hw:U.heap.size<=w.heap.size){t:List Nat}(ab:∀y,AI U [155,102] w y->BD y (.slice (some ad) n c) t)(hn:t.length=n)(ao:t.Nodup)(hT:∀k∈t,∃p,T[k]?=some p/\p.1.below=false)(hf:T.length<100000)(b9:n<=10000) :
  () 74 #[(rb,0),s,r,.slice (some ad) n c] w (OM U w rb s r T t):=by
 have HT:=Hd hT;have ah:=Hd ab;have a9:=Hd h;have af:=Hd (fun k=>Vm h k);obtain⟨av,J,h2⟩:=h.box;obtain⟨A,R,rfl⟩:=CG h2;have aa:=ab w (AI.refl _ _ w);have b7:=Hd aa;obtain⟨⟨Ad,cd,e,a3⟩,-,ak⟩:=id aa;simp only[Value.slice.injEq]at e;obtain⟨rfl,-,rfl⟩:=e;have bc:n<=c:=by have:=(ak _ _ _ rfl).1;omega
 have bd:(n:Int)<=(c:Int):=by omega
 have HC:=Hd a3;have aw:=Hd ao;obtain⟨m,hm⟩:∃m,T.length=m:=⟨_,rfl⟩
 rw[hm]at J h2 af hf;have HM:=Hd hm;have HL:=Hd hn;have HX:=Hd J;have HR:=Hd h2;have x0:=Ah.cell J 0;have xl:=J.lt;simp at x0;unfold OM;rw[hm];clear h ab ao hT aa a3 ak J h2 hm hn;go_enter func74,ntmps74
 go_wp2_with fail
 go_loopw [17] (fun ii wr=>∃i:Nat,i<=n/\ii=.int .i64 i/\wr=w) (fun ii _=>n-(intOf ii).toNat)
 case atStart=>exact⟨0,AX _,rfl,rfl⟩
 case round=>
  obtain⟨i,hi,rfl,aq⟩:=hrel;have b6:=aq.symm;subst b6;clear aq;by_cases b1:i<n
  ·obtain⟨k,hk⟩:∃k,t[i]?=some k:=⟨_,eG (by rw[HL.out];exact b1)⟩
   obtain⟨b,off,hA,az,d0⟩:=HC i k hk;cases hA
   unfold AV at d0;obtain⟨p,hp,ae⟩:=HT k (mG hk);have a7:k<m:=by rw[<-HM.out];exact(sG.1 hp).1
   obtain⟨o,ct,hA⟩:∃o,∃_:o<w.heap.size,A=some ⟨o,0,none⟩:=by
    rcases Bi HR.out with⟨_,h0⟩|⟨o,_,e,_,J,_⟩
    ·omega
    ·cases e;exact⟨o,J,rfl⟩
   subst hA;have t0:w.cell? ⟨o,k*6+5,none⟩=some (.bool false):=by rw[Bh HR _ (by omega),Uy hp (by decide)];simp[Nd.cells,ae]
   have HI:=Hd (af k);rw[decide_eq_true a7]at HI;have au:Hid (() 83 #[.slice (some ⟨b,off,none⟩) i c,.int .i64 k] w fun e w'=>e=.returned (.bool false)/\w'=w):=Hd (by
    have b5:BD w (.slice (some ⟨b,off,none⟩) i c) (t.take i):=by
     have a1:(t.take i).length=i:=by rw[List.length_take,HL.out];omega
     refine⟨⟨_,c,by rw[a1],fun j x hx=>?_⟩,by rw[a1];omega,fun A' n' c' e=>?_⟩
     ·rw[List.getElem?_take]at hx
      split at hx
      ·exact HC j x hx
      ·cases hx
     ·cases e
      exact⟨by omega,fun e=>by cases e⟩
    have h:=Ov b5 (by rw[List.length_take];omega) k;have b4:decide (k∈t.take i)=false:=decide_eq_false fun b3=>by
     obtain⟨j,hj⟩:=List.getElem?_of_mem b3;rw[List.getElem?_take]at hj;split at hj
     ·rename_i al
      obtain⟨q1,q2⟩:=sG.1 hj;obtain⟨q3,q4⟩:=sG.1 hk;exact List.pairwise_iff_getElem.1 aw j i q1 q3 al (q2.trans q4.symm)
     ·cases hj
    rwa [b4]at h)
   have bb:(i:Int)<(n:Int):=by omega
   have b0:(k:Int)<(m:Int):=by omega
   have ba:(i:Int)<=(c:Int):=by omega
   clear hk hp ae;go_wp2_with (first
    | (go_at_call 96;refine HI.mono ?_;rintro e l ⟨rfl,rfl⟩)
    | (go_at_call 83;refine au.mono ?_;rintro e l ⟨rfl,rfl⟩))
   go_roundw
   case rel=>exact⟨i+1,by omega,by go_num,trivial⟩
   case measure=>simp[intOf];omega
  ·obtain rfl:i=n:=by omega
   go_wp2_with fail
   clear x0;go_loopw [46] (fun jj wr=>∃j:Nat,j<=i/\jj=.int .i64 j/\Hid (Ah wr rb 102 #[.slice A m R]/\wr.ownsRow U 155 6 (.slice A m R) m ((Er T (t.take j)).flatMap Nd.cells)/\AI U [155,102] w wr)) (fun jj _=>i-(intOf jj).toNat)
   case atStart=>exact⟨0,AX _,rfl,Hd ⟨HX,HR,AI.refl _ _ _⟩⟩
   case round=>
    obtain⟨j,hj,rfl,C⟩:=hrel;rename World=>l
    have x0:l.cell? (rb,0)=some (.slice A m R):=Ah.cell C.1 0;have xl:=C.1.lt;by_cases b2:j<i
    ·obtain⟨k,hk⟩:∃k,t[j]?=some k:=⟨_,eG (by rw[HL.out];exact b2)⟩
     obtain⟨⟨Ad,cd,e,a3⟩,-,-⟩:=ah l C.2.2;simp only[Value.slice.injEq]at e;obtain⟨rfl,-,rfl⟩:=e;obtain⟨b,off,hA,az,d0⟩:=a3 j k hk;cases hA
     unfold AV at d0;obtain⟨p,hp,ae⟩:=HT k (mG hk);have a7:k<m:=by rw[<-HM.out];exact(sG.1 hp).1
     have a2:=C.2.1;obtain⟨o,ct,hA⟩:∃o,∃_:o<l.heap.size/\∃ai,Ah l o 155 ai,A=some ⟨o,0,none⟩:=by
      rcases Bi a2 with⟨_,h0⟩|⟨o,_,e,_,J,_,_,a6⟩
      ·omega
      ·cases e;exact⟨o,⟨J,a6⟩,rfl⟩
     subst hA;have a1:(Er T (t.take j)).length=m:=by rw[KP,HM.out]
     obtain⟨q,hq⟩:∃q,(Er T (t.take j))[k]?=some q:=⟨_,eG (by rw[a1];exact a7)⟩
     have t0:l.cell? ⟨o,k*6+5,none⟩=some (.bool q.1.below):=by rw[Bh a2 _ (by omega),Uy hq (by decide)];rfl
     have t1:=G2 a2 (k*6+5);have tl:=ct.1;have ay:Hid (Ah (l.setCell ⟨o,k*6+5,none⟩ (.bool true)) rb 102 #[.slice (some ⟨o,0,none⟩) m R]/\(l.setCell ⟨o,k*6+5,none⟩ (.bool true)).ownsRow U 155 6 (.slice (some ⟨o,0,none⟩) m R) m ((Er T (t.take (j+1))).flatMap Nd.cells)/\AI U [155,102] w (l.setCell ⟨o,k*6+5,none⟩ (.bool true))):=Hd (by
      obtain⟨_,ai,a6⟩:=ct;refine⟨C.1.BA (p:=⟨o,k*6+5,none⟩) (Ah.Bf C.1 a6 (by decide)) _,?_,C.2.2.EH a6 ?_ (by simp) _ _⟩
      ·rw[List.take_add_one,hk,Option.toList_some,We,<-S6 _ k (by rw[a1];exact a7)]
       exact Gu a2 (k*6+5) (by omega) (.bool true)
      ·rcases Bi a2 with⟨_,h0⟩|⟨b8,_,e,J,_⟩
       ·omega
       ·cases e;exact J)
     have al:(j:Int)<(i:Int):=by omega
     have b0:(k:Int)<(m:Int):=by omega
     clear a2 a3 hk hp hq a1 ct;go_wp2_with fail
     go_roundw
     case rel=>exact⟨j+1,by omega,by go_num,ay⟩
     case measure=>simp[intOf];omega
    ·obtain rfl:j=i:=by omega
     rw[De (by rw[HL.out];exact AF _)]at C;have ax:Hid (Ee U l rb (Er T t)):=Hd ⟨⟨_,C.1,by rw[KP,HM.out];exact C.2.1⟩,fun p hp=>by obtain⟨q,hq,e1,e2⟩:=Q6 hp;rw[e1,e2];exact Ce (a9.kids q hq) C.2.2 (by decide),a9.lo,by rw[KP];exact a9.B7⟩
     have ar:Hid (() 97 #[.slice (some ad) j c] l.drew fun e w'=>∃A c',e=.returned (.slice A j c')/\w'.ownsRow l 3 1 (.slice A j c') j (t.map AV)/\Below l l w'):=Hd (by refine(dV (w:=l.drew) (xs:=t.map AV) (n:=j) (c:=c) (ad:=ad) (fun y hy=>(ah y (C.2.2.trans (AI.AJ (((Below.refl _ l).drew).trans hy)))).src HL) (by omega)).mono ?_;rintro e w' ⟨A',c',rfl,J,h2⟩;exact⟨A',c',rfl,J,((Below.refl _ l).drew).trans h2⟩)
     go_upto_region 14 with fail
     have a8:Hid (∀y,Below l l y->y.cell? (rb,0)=some (.slice A m R)):=Hd (fun y hy=>(hy.cell (p:=(rb,0)) xl).trans x0);refine DU 15 (fun v=>v.cell? (rb,0)=some (.slice A m R)) (by kernel_rfl) ?_;have P:(fun v:World=>v.cell? (rb,0)=some (.slice A m R)) l.drew:=x0;refine AA 0 P ?_;simp only[Aw,Ay];refine AA 1 P ?_;simp only[Aw,Ay];refine AA 2 P ?_;simp only[Aw,Ay];refine AA 3 P ?_;simp only[Aw,Ay];refine AA 4 P ?_;simp only[Aw,Ay];refine AA 5 P ?_;simp only[Aw,Ay];refine AA 6 P ?_
     simp only[Aw,Ay];refine AA 7 P ?_;simp only[Aw,Ay];refine Bk 8 (by kernel_rfl) rfl rfl (fun K I=>?_);go_simp;refine ar.mono ?_;rintro e w2 ⟨Ak,ck,rfl,an,aj⟩;have a4:=Hd aj;have ag:=Hd an;clear an aj P;refine I _ _ (fun _=>a8 w2 a4) ?_;clear I K;have P:(fun v:World=>v.cell? (rb,0)=some (.slice A m R)) w2:=a8 w2 a4;refine AA 9 P ?_;simp only[Aw,Ay];refine AA 10 P ?_;simp only[Aw,Ay];clear P;refine Bk 11 (by kernel_rfl) rfl rfl (fun K I=>?_);go_simp;have a0:=Hd (a4.alloc a4.size (.cells #[s,.int .i64 (-1),r,.slice Ak j ck,.bool false,.bool false] 155))
     refine I _ _ (fun _=>a8 _ a0) ?_;clear I K;refine FX 12 (by kernel_rfl) rfl rfl rfl (fun K I=>?_);refine EI SP (.tmp 62) (.tmp 69) rfl (base:=U.heap.size) (n:=m) (m:=1) (N:=m+1) (v:=.slice A m R) (src:=.slice (w2,0) 1 1) (xs:=(Er T t).flatMap Nd.cells) (news:=Nd.cells (⟨s,-1,r,t,false,false⟩,.slice Ak j ck)) rfl rfl (AS C.2.1 a0) (AY.Ap (c:=1) (Ah.new w2 155 _) rfl (by simp[Nd.cells,Value.oneCell'])) rfl (by unfold maxLen;omega) (by omega) (by have:=a0.size;have:=C.2.2.size;omega) ?_;intro A4 c4 w4 q1 q2 q3
     have HP:=Hd (ax.push a0 (p:=(⟨s,-1,r,t,false,false⟩,.slice Ak j ck)) (EP (AS (by rw[HL.out];exact ag) (AG w2 _)) (by have:=C.2.2.size;omega)) (A:=A4) (c:=c4) (by rw[KP,HM.out];exact q1) q2 (by rw[KP,HM.out];omega));rw[KP,HM.out]at HP;have a5:=q2.Ap (C.1.below a0 C.1.lt) (.inr (by decide));have y0:w4.cell? (rb,0)=some (.slice A m R):=Ah.cell a5 0;have y1:=Ah.frozen a5 0;have yl:=a5.lt;clear q1 q2 q3 a5;refine I _ _ (fun _=>y0) ?_;clear I K;simp only[Aw,Ay];refine Bk 13 (by kernel_rfl) rfl rfl (fun K I=>?_)
     go_simp;refine I _ _ (fun _=>y0) ?_;clear I K;refine Bk 14 (by kernel_rfl) rfl rfl (fun K I=>?_);go_simp;refine I _ _ (fun _=>y0) ?_;clear I K;refine Bk 15 (by kernel_rfl) rfl rfl (fun K I=>?_);go_simp;refine I _ _ (fun h=>absurd rfl h) ?_;clear I K;refine Dy (by kernel_rfl) ?_ _;go_wp2_with fail
     go_ret;refine⟨rfl,_,HP.1,C.2.2.trans ((AI.AJ a0).trans HP.2),fun b hb=>?_⟩;have J:=(BY ag b hb).2;have h2:=C.2.2.size;omega
end Go.Proofs.YtlogpnoioimhjaaGreatDoor
