/- . -/
import Derived.Test.YtendpobbjjaopaaGreatDoorXbb
import Derived.Laws.Append
import Derived.Laws.AppendOwn
set_option linter.all false
set_option maxRecDepth 100000
set_option maxHeartbeats 16000000
namespace Go.Proofs.YtendpobbjjaopaaGreatDoor
open Go.RowKit Go.Proofs.Tryz
open Value renaming slice→oG,int→oH,bool→oK
open Option renaming some→oM,none→oN
open IntKind renaming i64→oO
open Obj renaming cells→oP
open Ending renaming returned→oQ
open World renaming cell?→oT
open Go renaming World→oU,Value→oV
variable{v:oV}{c g n x:Nat}{E:List (List It)}{K:List (List (Nat×Nat))}{l:List Nat}{o:Oper}{a:Act}{Q:Exit->Act->oU->Prop}{j:Array Oper}{xs:List oV}{ad:Addr}
def Zx{w:oU}{g:Gz}(h:EV (fun b=>b<w.heap.size) w v g E K){i t:Nat}(p:i<E.length)(ht:t<=g.nt) :
  () 70 #[v,i,t] w fun e w'=>e=oQ (.agg #[oH oO (AZ g E K i t).1,oH oO (AZ g E K i t).2])/\Below w w w':=by
 obtain⟨J,cr,C,U,I,cg,rfl,-,j,-⟩:=h.open_;obtain⟨b,off,P,cx,rfl,a1,-,T,l⟩:=j i p;have o:(Es g E K i)[t]?=oM (AZ g E K i t):=by unfold Es;rw[pG,List.getElem?_range nX];rfl
 obtain⟨R,a5,rfl,a2,-,d0,d1⟩:=l.at_ o;generalize AZ g E K i t=x at *;have a0:(i:Int)<(E.length:Int):=by omega
 have a4:(t:Int)<(g.nt:Int)+1:=by omega
 have a3:(0:Int)<=(g.nt:Int)+1:=by omega
 clear h j l o;generalize E.length=n at *;generalize g.R.length+1=nr at *;generalize g.nn=nn at *;go_enter func70,ntmps70
 go_wp2;refine bodyPost_ret (v:=.agg #[x.1,x.2]) (by simp[results,Tryz.f70,go_sem]) rfl ?_;exact⟨rfl,(AG w _).alloc oA _⟩
def gK{w:oU}{g:Gz}(h:EV (fun b=>b<w.heap.size) w v g E K){i s:Nat}(I:i<E.length)(P:g.nt<s)(p:s<=g.top)(hn:g.nt<=1000)(a4:g.nn<=1000) :
  () 72 #[v,i,s] w fun e w'=>e=oQ (oH oO (DE (E.getD i []) s))/\Below w w w':=by
 obtain⟨U,cr,R,ca,T,cg,rfl,-,-,l⟩:=h.open_;obtain⟨b,off,Ax,cx,rfl,a2,-,c0,o⟩:=l i I;obtain⟨k,rfl⟩:∃k,s=g.nt+1+k:=⟨s-g.nt-1,nX⟩
 have J:k<g.nn:=by unfold Gz.top at p;omega
 have C:(E4 g E i)[k]?=oM (DE (E.getD i []) (g.nt+1+k)):=by unfold E4;rw[pG,List.getElem?_range J];rfl
 obtain⟨b2,a5,rfl,-,a3,d0⟩:=o.at_ C;generalize DE (E.getD i []) (g.nt+1+k)=x at *;have a0:(i:Int)<(E.length:Int):=by omega
 have a1:(k:Int)<(g.nn:Int):=by omega
 have t:((g.nt+1+k:Nat):Int)=(g.nt:Int)+1+k:=by omega
 clear h l o C;generalize E.length=n at *;generalize g.R.length+1=nr at *;generalize g.nn=nn at *;rw[t];clear t P p;generalize g.nt=j at *;go_enter func72,ntmps72
 have e1:(j:Int)+1+k-j-1=k:=by omega
 have e2:¬((j:Int)+1+k<=j):=by omega
 go_wp2;go_ret;exact⟨rfl,AG w _⟩
def Hs(w:oU)(v:oV)(l:List Nat):Prop:=(v=oG oN 0 0/\l=[])\/∃b,v=oG (oM ⟨b,0,oN⟩) l.length l.length/\b<w.heap.size/\∀k x,l[k]?=oM x->oT w ⟨b,k,oN⟩=oM (AY x)
def bE{w:oU}{ty:TypeId}(h:Hs w v l)(I:oT w (g,0)=oM (AY x))(hl:l.length<=100000) :
  ∃o w',(Builtin.append_ #[22,22] ty #[v,oG (g,0) 1 c]).run Tryz.prog w=.ok (oG (w,0) (l.length+1) o) w' /\
   w'.ownsRow w 3 1 (oG (w,0) (l.length+1) o) (l.length+1) ((l++[x]).map AY)/\Below w w w':=by
 rcases h with⟨rfl,rfl⟩|⟨b,rfl,hb,R⟩
 ·obtain⟨A,o,w',t,J,r2,r3⟩:=Nx (P:=Tryz.prog) (ty:=ty) Ib (base:=w.heap.size) (n:=0) (m:=1) (N:=1) (v:=oG oN 0 0) (src:=oG (g,0) 1 c) (xs:=[]) (news:=[AY x]) ⟨rfl,.inl ⟨rfl,rfl⟩⟩
   ⟨by simp[Value.oneCell',AY],.inr ⟨_,_,rfl,rfl,fun j v i=>by
    cases j with
    | zero=>simp only[List.getElem?_cons_zero,Option.some.injEq]at i;rw[<-i];simpa [Addr.add] using I
    | succ j=>simp at i⟩⟩ rfl nY nY (Ay _)
  have P:A=oM ⟨w.heap.size,0,oN⟩:=by
   rcases Bj J with⟨_,h0⟩|⟨b,c2,e,_⟩
   ·omega
   ·cases e
    rcases r3.2 with p|p
    ·cases p
    ·cases p;rfl
  subst P;exact⟨o,w',t,by simpa using J,r2.below (Ay _)⟩
 obtain⟨ht,⟨a1,z,T,hz,C,U,a0⟩,hp⟩:=Ib;have ha:∀j,((b,0):Addr).add j=⟨b,j,oN⟩:=fun j=>by simp[Addr.add];intro h;exact h.symm
 have t:=run_append_grow (P:=Tryz.prog) w 22 ty 3 a1 z ht T hz (b,0) l.length l.length (l.map AY) (by rw[lM,C,Nat.mul_one])
  (fun j v i=>by rw[pG]at i;obtain⟨y,hy,rfl⟩:=Option.map_eq_some_iff.1 i;rw[ha];exact R j y hy)
  (g,0) 1 c [AY x] (by rw[C];rfl)
  (fun j v i=>by
   cases j with
   | zero=>simp only[List.getElem?_cons_zero,Option.some.injEq]at i;rw[<-i];simpa [Addr.add] using I
   | succ j=>simp at i)
  nX nX (growslice_fits nX (by rw[U];omega))
 refine⟨_,_,t,⟨oA,.inr ⟨w.heap.size,_,_,rfl,Ay _,heap_alloc_new w.drew _,grownCap_ge w _ _ _,grownCap_le_maxLen w _ _ _ oB,?_,?_⟩⟩,(Below.refl _ w).drew.trans (by simpa using AG w.drew _)⟩
 ·have:=grownCap_ge w (l.length+1) l.length 3
  simp only[Array.size_append,List.size_toArray,size_zeroCells,a0,lM,List.length_cons,List.length_nil,Nat.mul_one];omega
 ·simp only[Array.toList_append,Nat.mul_one]
  rw[BB,show l.length+1=(l.map AY++[x].map AY).length by simp];exact List.take_left
def wp_cut{w:oU}{K:Act->oU->Prop}(s y:Operand)
  (t:o.op=.call {callee:=.builtin .append,args:=#[s,y],argTypes:=#[22,22]}) (I:a.eval s=v) (P:a.eval y=oG (g,0) 1 c) (h:Hs w v l) (J:oT w (g,0)=oM (AY x)) (p:l.length<=100000)
  (j:∀i w',w'.ownsRow w 3 1 (oG (w,0) (l.length+1) i) (l.length+1) ((l++[x]).map AY)->Below w w w'->K (a.put o.dst (oG (w,0) (l.length+1) i)) w'):o.wp Tryz.prog a w K Q:=by
 obtain⟨i,w',C,R,T⟩:=bE (ty:=o.type) (c:=c) h J p;unfold Oper.wp execOp;simp only[t,resolve,invoke,builtin,Sem.run_bind,Sem.run_pure,Result.andThen_ok,List.map_toArray,List.map_cons,List.map_nil,I,P,C];exact j i w' R T
def WC{w:oU}{rest:List Oper}(s y:Operand)(C:o.guard=oN)
  (J:o.op=.call {callee:=.builtin .append,args:=#[s,y],argTypes:=#[22,22]}) (P:a.eval s=v) (T:a.eval y=oG (g,0) 1 c) (h:Hs w v l) (R:oT w (g,0)=oM (AY x)) (I:l.length<=100000)
  (p:∀i w',w'.ownsRow w 3 1 (oG (w,0) (l.length+1) i) (l.length+1) ((l++[x]).map AY)->Below w w w'->wpList Tryz.prog j Q rest (a.put o.dst (oG (w,0) (l.length+1) i)) w'):wpList Tryz.prog j Q (o::rest) a w:=
 wpList_plain C fun _ t=>wp_cut s y J P T h R I fun i w' U r2=>t _ _ (p i w' U r2)
def cS{w:oU}{K:Act->oU->Prop}{D:Prop}(s y:Operand)(t:o.guard=oN)
  (I:o.op=.call {callee:=.builtin .append,args:=#[s,y],argTypes:=#[22,22]}) (J:a.eval s=v) (T:a.eval y=oG (g,0) 1 c) (h:Hs w v l) (R:oT w (g,0)=oM (AY x)) (C:l.length<=100000)
  (p:∀i w',w'.ownsRow w 3 1 (oG (w,0) (l.length+1) i) (l.length+1) ((l++[x]).map AY)->Below w w w'->K (a.put o.dst (oG (w,0) (l.length+1) i)) w') :
  if Region.wanted o (yielded j a.tmps)=true then Oper.wp Tryz.prog o a w K Q else D:=by
 have P:Region.wanted o (yielded j a.tmps)=true:=by simp[Region.wanted,t]
 rw[if_pos P];exact wp_cut s y I J T h R C p
structure Nd where
 sym:Int
 leaf:Int
 Br:Int
 kids:List Nat
 Zp:Bool
 below:Bool
variable{p:Nd×oV}
def Nd.cells(p:Nd×oV):List oV:=[oH oO p.1.sym,oH oO p.1.leaf,oH oO p.1.Br,p.2,oK p.1.Zp,oK p.1.below]
def Sw:El Tryz.prog 141 153 6 56:=El.of (z:=.agg #[oH oO 0,oH oO 0,oH oO 0,oG oN 0 0,oK false,oK false]) underlying141 nZ nZ nY
structure Eh(w0 w:oU)(rb:Nat)(T:List (Nd×oV)):Prop where
 box:∃av,Ah w rb 143 #[av]/\w.ownsRow w0 153 6 av T.length (T.flatMap Nd.cells)
 kids:∀p∈T,w.ownsRow w0 3 1 p.2 p.1.kids.length (p.1.kids.map AY)
 lo:w0.heap.size<=rb
 Cm:T.length<=100000
def Sy(T:List (Nd×oV))(v:oV):Prop:=∀p∈T,∀b,p.2.ownBlock=oM b->v.ownBlock≠oM b
structure CF(w0 w:oU)(eb tb rb:Nat)(st ns:List Nat)(T:List (Nd×oV))(over:Bool)(steps:Nat)(sv nv:oV):Prop where
 box:Ah w eb 91 #[(tb,0),sv,nv,(rb,0),oK over,steps]
 tree:Eh w0 w rb T
 Hx:w.ownsRow w0 3 1 sv st.length (st.reverse.map AY)
 nodes:w.ownsRow w0 3 1 nv ns.length (ns.reverse.map AY)
 JZ:Sy T sv
 JR:Sy T nv
 ap:∀b,sv.ownBlock=oM b->nv.ownBlock≠oM b
 lo:w0.heap.size<=eb
 GO:Gu w0 tb
 base:Below w0 w0 w
 lt:tb<w0.heap.size
 Cm:st.length<=10000/\ns.length<=10000/\steps<=1000000
variable{w:oU}{rb:Nat}{T:List (Nd×oV)}
def Eh.later{l w':oU}(h:Eh l w rb T)(i:Below w w w'):Eh l w' rb T:=by obtain⟨o,j,t⟩:=h.box;exact⟨⟨o,j.below i j.lt,AU t i⟩,fun p C=>AU (h.kids p C) i,h.lo,h.Cm⟩
def CF.later{t w':oU}{j tb:Nat}{st:List Nat}{o:Bool}{steps:Nat}{p nv:oV}(h:CF t w j tb rb st l T o steps p nv)(i:Below w w w'):CF t w' j tb rb st l T o steps p nv:=
 ⟨h.box.below i h.box.lt,h.tree.later i,AU h.Hx i,AU h.nodes i,h.JZ,h.JR,h.ap,h.lo,h.GO,h.base.trans (i.mono h.base.size),h.lt,h.Cm⟩
section
variable (g:Gz) (E:List (List It)) (K:List (List (Nat×Nat)))
def FG(u A:Nat):Option Nat:=if 0<=DE (E.getD u []) A/\DE (E.getD u []) A<(E.length:Int) then oM (DE (E.getD u []) A).toNat else oN
def Fh(t:Nat):Nat->List Nat->Option It
 | 0,_=>oN
 | _+1,[]=>oN
 | f+1,s::i=>if (AZ g E K s t).1=2 then(if (AZ g E K s t).2<g.R.length/\(s::i).length<=10000 then match (s::i).drop (g.right (AZ g E K s t).2).length with
  | []=>oN
  | u::r=>match FG E u (g.Br (AZ g E K s t).2).1 with
   | none=>oN
   | some q=>Fh t f (q::u::r)
  else oN) else oM (AZ g E K s t)
end
def Ch{w':oU}{B l:Nat}{T:List TypeId}{e:TypeId}{sz:Nat}(h:w.ownsRow B e sz v n xs)(I:AI l T w w')(C:e ∉ T):w'.ownsRow B e sz v n xs:=by
 refine⟨h.1,?_⟩;rcases h.2 with P|⟨g,cap,o,rfl,p,i,R⟩
 ·exact .inl P
 ·have J:=(aG.1 i).1
  exact .inr ⟨g,cap,o,rfl,p,(I.block g J (.inr fun U t m j=>by rw[i]at j;cases j;exact C)).trans i,R⟩
def St{tb:Nat}(h:Gu w tb)(C:tb<w.heap.size):() 15 #[(tb,0)] w fun e w'=>∃j rb I,e=oQ (.pointer (oM ⟨j,0,oN⟩))/\CF w w' j tb rb [0] [] [] false 0 I (oG oN 0 0)/\Below w w w':=by
 have t:=Hd h;clear h;have o:Hid (∀y,() 39 #[] y fun e w'=>e=oQ (y,0)/\w'=y.alloc (oP #[oG oN 0 0] 143)):=Hd (fun y=>by
  go_enter func39,ntmps39
  go_wp2;go_ret;exact⟨rfl,rfl⟩)
 go_enter func15,ntmps15
 go_wp2_with (go_at_call 39;refine(o _).mono ?_;rintro e J ⟨rfl,rfl⟩)
 go_ret;have l:Below w w (((w.alloc (oP #[oH oO 0] 3)).alloc (oP #[oG oN 0 0] 143)).alloc (oP #[(tb,0),oG (w,0) 1 1,oG oN 0 0,(w.heap.size+1,0),oK false,oH oO 0] 91)):=((AG w _).alloc oA _).alloc oC _;refine⟨_,_,_,rfl,⟨Ah.newAt oA,⟨⟨_,Ah.alloc (Ah.newAt oA) _,⟨rfl,.inl ⟨rfl,rfl⟩⟩⟩,fun p i=>(by simp at i),nX,oA⟩,Py (XS:=[AY 0]) (Ah.alloc (Ah.alloc (Ah.new w 3 #[oH oO 0]) _) _) (Ay _) rfl nY,⟨rfl,.inl ⟨rfl,rfl⟩⟩,fun p i=>(by simp at i),fun p i=>(by simp at i),fun b _ h=>(by cases h),(by omega),t,l,C,nY⟩,l⟩
def XK{l:oU}(h:Eh l w rb T):() 159 #[(rb,0)] w fun e w'=>e=oQ T.length/\w'=w:=by
 obtain⟨p,i,j⟩:=h.box;obtain⟨A,c,rfl⟩:=CG j;have o:=Ah.cell i 0;have C:=i.lt;simp at o;have t:=h.Cm;clear h i j;go_enter func159,ntmps159
 go_wp2;go_ret;exact⟨rfl,rfl⟩
def nP{o:oU}(h:Eh o w rb T)(k:Nat):() 108 #[(rb,0),k] w fun e w'=>e=oQ (oK (decide (k<T.length)))/\w'=w:=by
 have i:=Hd (XK h);clear h;generalize T.length=n at *;by_cases j:k<n
 ·have l:(k:Int)<(n:Int):=by omega
  go_enter func108,ntmps108
  go_wp2_with (go_at_call 159;refine i.mono ?_;rintro e p ⟨rfl,rfl⟩)
  go_ret;exact⟨by rw[decide_eq_true j];rfl,rfl⟩
 ·have l:¬((k:Int)<(n:Int)):=by omega
  go_enter func108,ntmps108
  go_wp2_with (go_at_call 159;refine i.mono ?_;rintro e p ⟨rfl,rfl⟩)
  go_ret;exact⟨by rw[decide_eq_false j];rfl,rfl⟩
def Eh.push{j W i:oU}(h:Eh j w rb T)(J:Below w w W)(U:W.ownsRow j 3 1 p.2 p.1.kids.length (p.1.kids.map AY)){A:Option Addr}(r1:i.ownsRow j 153 6 (oG A (T.length+1) c) (T.length+1) (T.flatMap Nd.cells++Nd.cells p))(t:AI j [153] W i)(R:T.length+1<=100000) :
  Eh j (i.setCell (rb,0) (oG A (T.length+1) c)) rb (T++[p])/\AI j [153,143] W (i.setCell (rb,0) (oG A (T.length+1) c)):=by
 obtain⟨P,C,h2⟩:=h.box;have I:Ah i rb 143 #[P]:=t.Aj (C.below J C.lt) (.inr nY);have o:AI j [143] i (i.setCell (rb,0) (oG A (T.length+1) c)):=(AI.refl _ _ i).EH I h.lo oA 0 _;refine⟨⟨⟨oG A (T.length+1) c,by simpa using I.Ba 0 (oG A (T.length+1) c),by simpa [List.flatMap_append] using Ch r1 o nY⟩,fun q l=>?_,h.lo,by simpa using R⟩,(t.mono (Ay _) oA).trans (o.mono (Ay _) oA)⟩;rcases mA.1 l with l|l
 ·exact Ch (Ch (AU (h.kids q l) J) t nY) o nY
 ·rw[mS.1 l]
  exact Ch (Ch U t nY) o nY
def jU{o:oU}(h:Eh o w rb T)(hw:o.heap.size<=w.heap.size){s l:Int}(R:T.length<100000) :
  () 44 #[(rb,0),s,l] w fun e w'=>e=oQ T.length/\Eh o w' rb (T++[(⟨s,l,-1,[],true,false⟩,oG oN 0 0)])/\AI o [153,143] w w':=by
 have HT:=Hd h;obtain⟨av,j,I⟩:=h.box;obtain⟨A,c,rfl⟩:=CG I;have x0:=Ah.cell j 0;have x1:=Ah.frozen j 0;have xl:=j.lt;simp at x0;have P:=Hd I;have i:=Hd j;obtain⟨n,J⟩:∃n,T.length=n:=⟨_,rfl⟩
 rw[J]at x0 P i R ⊢;have t:=Hd J;clear h j I J;go_enter func44,ntmps44
 go_wp2_with (
   at_builtin;refine DC Sw (.tmp 13) (.tmp 18) rfl rfl (base:=o.heap.size) (n:=n) (m:=1) (N:=n+1) (v:=oG A n c) (src:=oG (w,0) 1 1) (xs:=T.flatMap Nd.cells) (news:=Nd.cells (⟨s,l,-1,[],true,false⟩,oG oN 0 0)) rfl rfl (AU P (AG w _)) (Be.Aj (c:=1) (Ah.new w 153 _) rfl (by simp[Nd.cells,Value.oneCell'])) rfl oB nX oC ?_
   intro A2 c2 w2 U p r3;have C:=Hd (HT.push (AG w _) (p:=(⟨s,l,-1,[],true,false⟩,oG oN 0 0)) ⟨rfl,.inl ⟨rfl,rfl⟩⟩ (A:=A2) (c:=c2) (by rw[t.out];exact U) p (by rw[t.out];exact R));have y0:oT w2 (rb,0)=oM (oG A n c):=Ah.cell (p.Aj (i.below (AG w _) i.lt) (.inr nY)) 0;have y1:=Ah.frozen (p.Aj (i.below (AG w _) i.lt) (.inr nY)) 0;rw[t.out]at C;clear U p r3)
 go_ret;exact⟨oF,C.1,(AI.AJ (AG w _)).trans C.2⟩
def fA(l:∀y,Below w w y->Be y (oG (oM ad) n c) n 1 xs)(T:n<=1048576) :
  () 109 #[oG (oM ad) n c] w fun e w'=>∃A j,e=oQ (oG A n j)/\w'.ownsRow w 3 1 (oG A n j) n xs/\Below w w w':=by
 have I:=Hd l;have J:Hid (∀y:oU,y=w.alloc (oP #[] 3)->y.ownsRow w 3 1 (oG (w,0) 0 0) 0 []):=Hd (fun y P=>by rw[P];exact OA (W:=w) rfl (Ay _) nY rfl);have U:∀(y:oU) (ad:Addr) (n c:Nat),(binOp BinOp.eql 22 (oG (oM ad) n c) (oG oN 0 0)).run Tryz.prog y=.ok (oK false) y:=fun _ _ _ _=>by kernel_rfl
 clear l;go_enter func109,ntmps109
 go_wp2_with (
   at_builtin;refine DC Ib (.tmp 5) (.tmp 6) rfl rfl (base:=w.heap.size) (n:=0) (m:=n) (N:=n) (xs:=[]) (news:=xs) rfl rfl (J _ rfl) (I _ (DM w _)) nX oB nX oA ?_
   intro C c2 t o p R;have i:Hid (t.ownsRow w 3 1 (oG C n c2) n xs/\Below w w t):=Hd ⟨by simpa using o,(DM w _).trans (p.below oA)⟩;clear o p R)
 go_ret;exact⟨_,_,rfl,i.1,i.2⟩
def BF.src(h:BF w (oG (oM ad) n c) l)(t:l.length=n):Be w (oG (oM ad) n c) n 1 (l.map AY):=by
 obtain⟨⟨A,I,e,p⟩,-,-⟩:=h;refine⟨fun u i=>?_,.inr ⟨ad,c,rfl,by rw[lM,t,Nat.mul_one],fun j u i=>?_⟩⟩
 ·obtain⟨x,-,rfl⟩:=List.mem_map.1 i
  rfl
 ·rw[pG]at i
  obtain⟨x,C,rfl⟩:=Option.map_eq_some_iff.1 i;simp only[Value.slice.injEq]at e;obtain⟨rfl,-,-⟩:=e;obtain⟨b,off,o,-,h⟩:=p j x C;cases o
  rw[show ((b,off):Addr).add j=⟨b,off+j,oN⟩ by unfold Addr.add;split<;>simp_all];exact h
def LW(l:List Nat)(i:oV):Prop:=l=[]->i=oG oN 0 0\/∃j c,i=oG (oM j) 0 c
def Yy{j:oV}{i:List Nat}(h:BF w j i)(T:i.length<=100000)(h0:LW i j) :
  () 109 #[j] w fun e w'=>∃A c,e=oQ (oG A i.length c)/\w'.ownsRow w 3 1 (oG A i.length c) i.length (i.map AY)/\Below w w w':=by
 have I:(i=[]/\j=oG oN 0 0)\/∃l c,j=oG (oM l) i.length c:=by
  by_cases o:i=[]
  ·rcases h0 o with e|⟨l,c,e⟩
   ·exact .inl ⟨o,e⟩
   ·exact .inr ⟨l,c,by rw[e,o];rfl⟩
  ·obtain⟨⟨A,c,e,C⟩,-,-⟩:=h
   obtain⟨b,off,rfl,-⟩:=C 0 (i[0]'(by cases i with|nil=>exact absurd rfl o|cons a a0=>exact Nat.succ_pos _)) (eG _);exact .inr ⟨_,c,e⟩
 rcases I with⟨rfl,rfl⟩|⟨l,c,rfl⟩
 ·clear h h0
  have U:∀y:oU,(binOp BinOp.eql 22 (oG oN 0 0) (oG oN 0 0)).run Tryz.prog y=.ok (oK true) y:=fun _=>by kernel_rfl
  go_enter func109,ntmps109
  go_wp2;go_ret;exact⟨oN,0,rfl,⟨rfl,.inl ⟨rfl,rfl⟩⟩,Below.refl _ _⟩
 ·exact(fA (xs:=i.map AY) (fun y R=>BF.src (BH.later h R) rfl) nX).mono fun e w' ⟨A,p,J,P,t⟩=>⟨A,p,J,P,t⟩
theorem LW.some{i:List Nat}{ad:Addr}{n c:Nat}(j:i.length=n):LW i (oG (oM ad) n c):=fun e=>.inr ⟨ad,c,by subst e;cases j;rfl⟩
def Nd.mark(p:Nd×oV):Nd×oV:=({p.1 with below:=true},p.2)
def Ee(T:List (Nd×oV))(i:List Nat):List (Nd×oV):=i.foldl (fun T k=>T.modify k Nd.mark) T
theorem KK(T:List (Nd×oV))(i:List Nat):(Ee T i).length=T.length:=by
 induction i generalizing T with
 | nil=>rfl
 | cons k i j=>rw[Ee,List.foldl_cons];exact(j _).trans oA
def Y3(T:List (Nd×oV))(i:List Nat)(k:Nat):Ee T (i++[k])=(Ee T i).modify k Nd.mark:=by simp[Ee]
theorem Uc:∀(T:List (Nd×oV)) (k:Nat),k<T.length->(T.flatMap Nd.cells).set (k*6+5) (oK true)=(T.modify k Nd.mark).flatMap Nd.cells
 | [],k,h=>by simp at h
 | p::T,0,_=>by simp[Nd.cells,Nd.mark]
 | p::T,k+1,h=>by have:=Uc T k (by simpa using h);rw[show (k+1)*6+5=k*6+5+6 by omega,List.flatMap_cons,List.modify_succ_cons,List.flatMap_cons,<-this];simp[Nd.cells]
def Sp{k:Nat}(h:T[k]?=oM p){j:Nat}(i:j<6):(T.flatMap Nd.cells)[k*6+j]?=(Nd.cells p)[j]?:=by obtain⟨l,rfl⟩:=sG.1 h;exact CP Nd.cells 6 (fun _=>rfl) T k j l i
theorem Vn{o:List Nat}(h:p∈Ee T o):∃q∈T,p.2=q.2/\p.1.kids=q.1.kids:=by
 induction o generalizing T with
 | nil=>exact⟨p,h,rfl,rfl⟩
 | cons k o P=>
  rw[Ee,List.foldl_cons]at h;obtain⟨q,J,t,C⟩:=P h;obtain⟨i,j⟩:=List.getElem?_of_mem J;rw[List.getElem?_modify]at j;cases l:T[i]? with
  | none=>rw[l]at j;cases j
  | some r=>
   rw[l]at j;have I:=mG l;simp only[Option.map_eq_map,Option.map_some,Option.some.injEq]at j;split at j
   ·exact⟨r,I,by rw[t,<-j];rfl,by rw[C,<-j];rfl⟩
   ·exact⟨r,I,by rw[t,<-j],by rw[C,<-j]⟩
def N3(l w:oU)(rb:Nat)(s r:Int)(T:List (Nd×oV))(i:List Nat)(e:Ending)(w':oU):Prop:=
 e=oQ T.length/\∃j,Eh l w' rb (Ee T i++[(⟨s,-1,r,i,false,false⟩,j)])/\AI l [153,143] w w'/\∀b,j.ownBlock=oM b->w.heap.size<=b
def bP{R:oU}{s r:Int}(h:Eh R w rb T)(hw:R.heap.size<=w.heap.size){Ak:Option Addr}{t:List Nat}(ad:∀y,AI R [153,143] w y->BF y (oG Ak n c) t)(aj:LW t (oG Ak n c))(hn:t.length=n)(aq:t.Nodup)(hT:∀k∈t,∃p,T[k]?=oM p/\p.1.below=false)(hf:T.length<100000)(bb:n<=10000) :
  () 71 #[(rb,0),s,r,oG Ak n c] w (N3 R w rb s r T t):=by
 have HT:=Hd hT;have ah:=Hd ad;have ax:=Hd aj;have aa:=Hd h;have af:=Hd (fun k=>nP h k);obtain⟨av,J,h2⟩:=h.box;obtain⟨A,P,rfl⟩:=CG h2;have ab:=ad w (AI.refl _ _ w);have b9:=Hd ab;obtain⟨⟨Ad,cd,e,a4⟩,-,al⟩:=id ab;simp only[Value.slice.injEq]at e;obtain⟨rfl,-,rfl⟩:=e;have be:n<=c:=by have:=(al _ _ _ rfl).1;omega
 have bf:(n:Int)<=(c:Int):=by omega
 have HC:=Hd a4;have ay:=Hd aq;obtain⟨m,hm⟩:∃m,T.length=m:=⟨_,rfl⟩
 rw[hm]at J h2 af hf;have HM:=Hd hm;have HL:=Hd hn;have HX:=Hd J;have HR:=Hd h2;have x0:=Ah.cell J 0;have xl:=J.lt;simp at x0;unfold N3;rw[hm];clear h aj ad aq hT ab a4 al J h2 hm hn;go_enter func71,ntmps71
 go_wp2_with fail
 go_loopw [17] (fun ii wr=>∃i:Nat,i<=n/\ii=oH oO i/\wr=w) (fun ii _=>n-(intOf ii).toNat)
 case atStart=>exact⟨0,AX _,rfl,rfl⟩
 case round=>
  obtain⟨i,hi,rfl,ar⟩:=hrel;have b8:=ar.symm;subst b8;clear ar;by_cases b3:i<n
  ·obtain⟨k,U⟩:∃k,t[i]?=oM k:=⟨_,eG (by rw[HL.out];exact b3)⟩
   obtain⟨b,off,hA,b1,d0⟩:=HC i k U;cases hA
   unfold AY at d0;obtain⟨p,hp,ae⟩:=HT k (mG U);have a8:k<m:=by rw[<-HM.out];exact(sG.1 hp).1
   obtain⟨o,ct,hA⟩:∃o,∃_:o<w.heap.size,A=oM ⟨o,0,oN⟩:=by
    rcases Bj HR.out with⟨_,h0⟩|⟨o,_,e,_,J,_⟩
    ·omega
    ·cases e;exact⟨o,J,rfl⟩
   subst hA;have t0:oT w ⟨o,k*6+5,oN⟩=oM (oK false):=by rw[Bh HR _ nX,Sp hp nY];simp[Nd.cells,ae]
   have HI:=Hd (af k);rw[decide_eq_true a8]at HI;have aw:Hid (() 94 #[oG (oM ⟨b,off,oN⟩) i c,oH oO k] w fun e w'=>e=oQ (oK false)/\w'=w):=Hd (by
    have b7:BF w (oG (oM ⟨b,off,oN⟩) i c) (t.take i):=by
     have a1:(t.take i).length=i:=by rw[List.length_take,HL.out];omega
     refine⟨⟨_,c,by rw[a1],fun j x hx=>?_⟩,by rw[a1];omega,fun A' n' c' e=>?_⟩
     ·rw[List.getElem?_take]at hx
      split at hx
      ·exact HC j x hx
      ·cases hx
     ·cases e
      exact⟨nX,fun e=>by cases e⟩
    have h:=O7 b7 (by rw[List.length_take];omega) k;have b6:decide (k∈t.take i)=false:=decide_eq_false fun b5=>by
     obtain⟨j,hj⟩:=List.getElem?_of_mem b5;rw[List.getElem?_take]at hj;split at hj
     ·rename_i an
      obtain⟨q1,q2⟩:=sG.1 hj;obtain⟨q3,q4⟩:=sG.1 U;exact List.pairwise_iff_getElem.1 ay j i q1 q3 an (q2.trans q4.symm)
     ·cases hj
    rwa [b6]at h)
   have bd:(i:Int)<(n:Int):=by omega
   have b2:(k:Int)<(m:Int):=by omega
   have bc:(i:Int)<=(c:Int):=by omega
   clear U hp ae;go_wp2_with (first
    | (go_at_call 108;refine HI.mono ?_;rintro e l ⟨rfl,rfl⟩)
    | (go_at_call 94;refine aw.mono ?_;rintro e l ⟨rfl,rfl⟩))
   go_roundw
   case rel=>exact⟨i+1,nX,oD,trivial⟩
   case measure=>simp[intOf];omega
  ·obtain rfl:i=n:=by omega
   go_wp2_with fail
   clear x0;go_loopw [46] (fun jj wr=>∃j:Nat,j<=i/\jj=oH oO j/\Hid (Ah wr rb 143 #[oG A m P]/\wr.ownsRow R 153 6 (oG A m P) m ((Ee T (t.take j)).flatMap Nd.cells)/\AI R [153,143] w wr)) (fun jj _=>i-(intOf jj).toNat)
   case atStart=>exact⟨0,AX _,rfl,Hd ⟨HX,HR,AI.refl _ _ _⟩⟩
   case round=>
    obtain⟨j,hj,rfl,C⟩:=hrel;rename oU=>l
    have x0:oT l (rb,0)=oM (oG A m P):=Ah.cell C.1 0;have xl:=C.1.lt;by_cases b4:j<i
    ·obtain⟨k,U⟩:∃k,t[j]?=oM k:=⟨_,eG (by rw[HL.out];exact b4)⟩
     obtain⟨⟨Ad,cd,e,a4⟩,-,-⟩:=ah l C.2.2;simp only[Value.slice.injEq]at e;obtain⟨rfl,-,rfl⟩:=e;obtain⟨b,off,hA,b1,d0⟩:=a4 j k U;cases hA
     unfold AY at d0;obtain⟨p,hp,ae⟩:=HT k (mG U);have a8:k<m:=by rw[<-HM.out];exact(sG.1 hp).1
     have a2:=C.2.1;obtain⟨o,ct,hA⟩:∃o,∃_:o<l.heap.size/\∃ai,Ah l o 153 ai,A=oM ⟨o,0,oN⟩:=by
      rcases Bj a2 with⟨_,h0⟩|⟨o,_,e,_,J,_,_,a7⟩
      ·omega
      ·cases e;exact⟨o,⟨J,a7⟩,rfl⟩
     subst hA;have a1:(Ee T (t.take j)).length=m:=by rw[KK,HM.out]
     obtain⟨q,hq⟩:∃q,(Ee T (t.take j))[k]?=oM q:=⟨_,eG (by rw[a1];exact a8)⟩
     have t0:oT l ⟨o,k*6+5,oN⟩=oM (oK q.1.below):=by rw[Bh a2 _ nX,Sp hq nY];rfl
     have t1:=GD a2 (k*6+5);have tl:=ct.1;have b0:Hid (Ah (l.setCell ⟨o,k*6+5,oN⟩ (oK true)) rb 143 #[oG (oM ⟨o,0,oN⟩) m P]/\(l.setCell ⟨o,k*6+5,oN⟩ (oK true)).ownsRow R 153 6 (oG (oM ⟨o,0,oN⟩) m P) m ((Ee T (t.take (j+1))).flatMap Nd.cells)/\AI R [153,143] w (l.setCell ⟨o,k*6+5,oN⟩ (oK true))):=Hd (by
      obtain⟨_,ai,a7⟩:=ct;refine⟨C.1.Bz (p:=⟨o,k*6+5,oN⟩) (Ah.Bb C.1 a7 nY) _,?_,C.2.2.EH a7 ?_ oA _ _⟩
      ·rw[List.take_add_one,U,Option.toList_some,Y3,<-Uc _ k (by rw[a1];exact a8)]
       exact Ge a2 (k*6+5) nX (oK true)
      ·rcases Bj a2 with⟨_,h0⟩|⟨ba,_,e,J,_⟩
       ·omega
       ·cases e;exact J)
     have an:(j:Int)<(i:Int):=by omega
     have b2:(k:Int)<(m:Int):=by omega
     clear a2 a4 U hp hq a1 ct;go_wp2_with fail
     go_roundw
     case rel=>exact⟨j+1,nX,oD,b0⟩
     case measure=>simp[intOf];omega
    ·obtain rfl:j=i:=by omega
     rw[Da (by rw[HL.out];exact Ay _)]at C;have az:Hid (Eh R l rb (Ee T t)):=Hd ⟨⟨_,C.1,by rw[KK,HM.out];exact C.2.1⟩,fun p hp=>by obtain⟨q,hq,e1,e2⟩:=Vn hp;rw[e1,e2];exact Ch (aa.kids q hq) C.2.2 nY,aa.lo,by rw[KK];exact aa.Cm⟩
     have au:Hid (() 109 #[oG Ak j c] l.drew fun e w'=>∃A c',e=oQ (oG A j c')/\w'.ownsRow l 3 1 (oG A j c') j (t.map AY)/\Below l l w'):=Hd (by have hc:=Yy (w:=l.drew) (ah l.drew (C.2.2.trans (AI.AJ ((Below.refl _ l).drew)))) (by rw[HL.out];omega) ax;rw[HL.out]at hc;refine hc.mono ?_;rintro e w' ⟨A',c',rfl,J,h2⟩;exact⟨A',c',rfl,J,((Below.refl _ l).drew).trans h2⟩)
     go_upto_region 14 with fail
     have a9:Hid (∀y,Below l l y->oT y (rb,0)=oM (oG A m P)):=Hd (fun y hy=>(hy.cell (p:=(rb,0)) xl).trans x0);refine DY 15 (fun v=>oT v (rb,0)=oM (oG A m P)) nZ ?_;have a3:(fun v:oU=>oT v (rb,0)=oM (oG A m P)) l.drew:=x0;refine Mi [0,1,2,3,4,5,6,7] a3 ?_;refine Bm 8 nZ rfl rfl (fun K I=>?_);go_simp;refine au.mono ?_;rintro e w2 ⟨Ak,ck,rfl,ao,ak⟩;have a5:=Hd ak;have ag:=Hd ao;clear ao ak a3;refine I _ _ (fun _=>a9 w2 a5) ?_;clear I K;have a3:(fun v:oU=>oT v (rb,0)=oM (oG A m P)) w2:=a9 w2 a5
     refine Mi [9,10] a3 ?_;clear a3;refine Bm 11 nZ rfl rfl (fun K I=>?_);go_simp;have a0:=Hd (a5.alloc a5.size (oP #[s,oH oO (-1),r,oG Ak j ck,oK false,oK false] 153));refine I _ _ (fun _=>a9 _ a0) ?_;clear I K;refine Hn 12 nZ rfl rfl rfl (fun K I=>?_);refine Eu Sw (.tmp 62) (.tmp 69) rfl (base:=R.heap.size) (n:=m) (m:=1) (N:=m+1) (v:=oG A m P) (src:=oG (w2,0) 1 1) (xs:=(Ee T t).flatMap Nd.cells) (news:=Nd.cells (⟨s,-1,r,t,false,false⟩,oG Ak j ck)) rfl rfl (AU C.2.1 a0) (Be.Aj (c:=1) (Ah.new w2 153 _) rfl (by simp[Nd.cells,Value.oneCell'])) rfl oB nX (by have:=a0.size;have:=C.2.2.size;omega) ?_
     intro A4 c4 w4 q1 q2 q3;have HP:=Hd (az.push a0 (p:=(⟨s,-1,r,t,false,false⟩,oG Ak j ck)) (EN (AU (by rw[HL.out];exact ag) (AG w2 _)) (by have:=C.2.2.size;omega)) (A:=A4) (c:=c4) (by rw[KK,HM.out];exact q1) q2 (by rw[KK,HM.out];omega));rw[KK,HM.out]at HP;have a6:=q2.Aj (C.1.below a0 C.1.lt) (.inr nY);have y0:oT w4 (rb,0)=oM (oG A m P):=Ah.cell a6 0;have y1:=Ah.frozen a6 0;have yl:=a6.lt;clear q1 q2 q3 a6;refine I _ _ (fun _=>y0) ?_;clear I K;simp only[AD,AE];refine Bm 13 nZ rfl rfl (fun K I=>?_)
     go_simp;refine I _ _ (fun _=>y0) ?_;clear I K;refine Bm 14 nZ rfl rfl (fun K I=>?_);go_simp;refine I _ _ (fun _=>y0) ?_;clear I K;refine Bm 15 nZ rfl rfl (fun K I=>?_);go_simp;refine I _ _ (fun h=>absurd rfl h) ?_;clear I K;refine D0 nZ ?_ _;go_wp2_with fail
     go_ret;refine⟨rfl,_,HP.1,C.2.2.trans ((AI.AJ a0).trans HP.2),fun b hb=>?_⟩;have J:=(B6 ag b hb).2;have h2:=C.2.2.size;omega
