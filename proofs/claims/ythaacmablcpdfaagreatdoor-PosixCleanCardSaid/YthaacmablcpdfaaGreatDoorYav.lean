/- Where the making of lookaheads stands fr. The making of lookaheads. -/
import Derived.Test.YthaacmablcpdfaaGreatDoorYau
import Derived.Test.YthaacmablcpdfaaGreatDoorYat
import Derived.Test.YthaacmablcpdfaaGreatDoorYn
set_option linter.unusedVariables false
set_option maxRecDepth 100000
set_option maxHeartbeats 16000000
namespace Go.Proofs.YthaacmablcpdfaaGreatDoor
open Go.RowKit
theorem UN:El Tryz.prog 58 76 1 24:=El.of (z:=.slice none 0 0) Tryz.underlying58 (by kernel_rfl) rfl (by decide)
def GH(w:World)(m:Nat)(v:Value)(l:List (Nat×Nat)):Prop:=Bk (fun b=>b<w.heap.size) w v l.length 2 (fun k j x=>if j=0 then x=.int .i64 ((l.getD k (0,0)).1:Nat) else Bz w x (Bl m (l.getD k (0,0)).2))
theorem GH.later{w w':World}{m:Nat}{v:Value}{l:List (Nat×Nat)}(h:GH w m v l)(o:Below w.heap.size w w'):GH w' m v l:=by
 have t:=o.size;refine(Bk.Aw (X:=fun b=>w.heap.size<=b) h (Aj.AH o) (fun b o i=>by omega) (f':=fun k j x=>if j=0 then x=.int .i64 ((l.getD k (0,0)).1:Nat) else Bz w' x (Bl m (l.getD k (0,0)).2)) (fun k j x _ _ i=>?_)).mono (fun b o=>by omega) (fun k j x _ _ i=>i);split at i
 ·rename_i p
  rw[if_pos p];exact i
 ·rename_i p
  rw[if_neg p];exact i.later o
def IC(w:World)(m:Nat)(v:Value)(l:List (List (Nat×Nat))):Prop:=Bk (fun b=>b<w.heap.size) w v l.length 1 (fun k _ x=>GH w m x (l.getD k []))
theorem IC.later{w w':World}{m:Nat}{v:Value}{l:List (List (Nat×Nat))}(h:IC w m v l)(i:Below w.heap.size w w'):IC w' m v l:=by have p:=i.size;exact(Bk.Aw (X:=fun b=>w.heap.size<=b) h (Aj.AH i) (fun b i o=>by omega) (f':=fun k _ x=>GH w' m x (l.getD k [])) (fun k j x _ _ o=>o.later i)).mono (fun b i=>by omega) (fun k j x _ _ o=>o)
theorem MU.ZZ{i w w':World}{mb o:Nat}{v p R P U fv:Value}{g:Gz}{T:List (List (Nat×Bool))}{I:List (List AQ)}{V:List (Value×Value)}{L E:List (List It)}{e:Ending}(h:MU i w mb v p R P U fv g T I e w')(a0:GN i v g)(hA:Fm i p V L E)(hm:i.heap.size<=mb/\mb<w.heap.size)(hf:i.heap.size<=o/\o<w.heap.size)
  (hT:∀k,k<=g.R.length->(T.getD k []).length=(g.right k).length) (hc:g.Dg T (g.top+1)=some I) :
  e=.returned (.tuple #[])/\∃rv t C l,Ah w' mb 192 (EA v p rv t C l R P U fv)/\NM i w' mb o v p rv t C l g V L E T I/\Below i.heap.size i w'/\w.heap.size<=w'.heap.size/\Aj (·=mb) w w':=by
 obtain⟨he,h1,h2,h3,rv,t,C,l,J,r1,r2,r3,r4⟩:=h;have j:∀b,G5 i w w' b->Sx mb o w'.heap.size b:=fun b J=>by obtain⟨h4,h5⟩:=J;refine⟨h5,?_,?_⟩<;>(rintro rfl;omega)
 refine⟨he,rv,t,C,l,J,⟨a0,hA,r1.mono j,r2.mono j,r3.mono j,Bk.mono r4 j (fun k a1 x _ _ hx=>hx.mono j),hT,Qx a0.fit _ _ (AG _) hc,(Mf _ _ hc).1⟩,h1,h2,h3⟩
theorem Mk.start{j l:World}{mb i n:Nat}{v I rv J P p:Value}{g:Gz}(T:Ah l mb 192 (EA v I rv J P p (.slice none 0 0) (.slice none 0 0) (.slice none 0 0) (.slice (some ⟨i,0,none⟩) n n)))(hv:∃x0 x1 x2 x3,v=.agg #[x0,x1,x2,x3])(t:Below j.heap.size j l)(hm:j.heap.size<=mb)(C:j.heap.size<=i)(hF:Ah l i 246 (Array.replicate n (.slice none 0 0)))(hn:n<=100000) :
  Mk j l l mb i n n v I rv J P p (.slice none 0 0) (.slice none 0 0) (.slice none 0 0) g [] [] [] [] (List.replicate n (.slice none 0 0,[])):=by
 refine⟨t,hv,⟨hm,C,t.size⟩,Aj.refl _ _,T,⟨rfl,.inl ⟨rfl,rfl⟩⟩,⟨rfl,.inl ⟨rfl,rfl⟩⟩,Bu.nil _ _,(fun a3 hp=>by cases hp),⟨rfl,.inl ⟨rfl,rfl⟩⟩,(fun z hz=>by cases hz),?_⟩;refine⟨⟨by simp,.inr ⟨i,n,_,rfl,C,hF,AG _,by unfold maxLen;omega,by simp,by simp⟩⟩,fun k x o=>?_,fun a1 a2 x y o hy a0 k U=>?_⟩
 ·obtain⟨R,rfl⟩:=sG.1 o
  simp;exact⟨rfl,.inl ⟨rfl,rfl⟩⟩
 ·obtain⟨R,rfl⟩:=sG.1 o
  simp[Value.ownBlock]at U
def Gz.Eh(L:List (List It)):Nat:=(L.map List.length).sum
theorem MS:∀(L:List (List It)) (b k:Nat) (K:List It),L[k]?=some K->(Gz.B4 L b)[k]?=some (b+Gz.Eh (L.take k))
 | [],b,k,K,h=>by simp at h
 | i::L,b,0,K,h=>by simp[Gz.B4,Gz.Eh]
 | i::L,b,k+1,K,h=>by rw[List.getElem?_cons_succ]at h;unfold Gz.B4;rw[List.getElem?_cons_succ,MS L _ k K h];unfold Gz.Eh;simp;omega
theorem He:∀(L:List (List It)) (b:Nat),(Gz.B4 L b).length=L.length
 | [],b=>rfl
 | i::L,b=>by unfold Gz.B4;simp[He L]
theorem X8{L:List (List It)}{k:Nat}{K:List It}(h:L[k]?=some K):(Gz.B4 L 0).take (k+1)=(Gz.B4 L 0).take k++[Gz.Eh (L.take k)]:=by rw[List.take_add_one,MS L 0 k K h];simp
theorem Ob{L:List (List It)}{k:Nat}{K:List It}(h:L[k]?=some K):Gz.Eh (L.take (k+1))=Gz.Eh (L.take k)+K.length:=by unfold Gz.Eh;rw[List.take_add_one,h];simp
theorem KU(L:List (List It))(k:Nat):Gz.Eh (L.take k)<=Gz.Eh L:=by unfold Gz.Eh;have h:=congrArg (fun l=>(l.map List.length).sum) (List.take_append_drop k L);simp only[By,List.sum_append]at h;omega
theorem Tw{L:List (List It)}{k:Nat}{K:List It}(h:L[k]?=some K):K.length<=Gz.Eh L:=by have i:=Ob h;have j:=KU L (k+1);omega
theorem Mt{g:Gz}{L E:List (List It)}{base:List Nat}{T:List (List (Nat×Bool))}{j:List (List AQ)}:∀(l:List (List It)) (st:Nat) (q r:Nat×List (List It)×List Edge),g.BV L E base T j l st q=some r->q.1<=r.1/\q.2.2.length<=r.2.2.length/\∃G,r.2.1=q.2.1++G/\G.length=l.length
 | [],st,q,r,h=>by
  unfold Gz.BV at h;cases h
  exact⟨AG _,AG _,[],by simp,rfl⟩
 | K::l,st,q,r,h=>by
  unfold Gz.BV at h;cases i:g.Ej L E base T j st K (base.getD st 0) (q.1,[],q.2.2) with
  | none=>rw[i]at h;cases h
  | some P=>rw[i]at h;obtain⟨p,t,G,o,C⟩:=Mt l (st+1) _ r h;obtain⟨I,-,J⟩:=LJ _ _ _ _ i;simp only at p t o I J;exact⟨by omega,by omega,P.2.1::G,by rw[o];simp,by simp[C]⟩
structure Im(g:Gz)(L E:List (List It))(f2 f3:Nat)(Em:Nat)(C:List Nat)(T:List (List (Nat×Bool)))(CC:List (List AQ))(n0:Nat)(FF:List (List It))(ed:List Edge)(A:List Nat):Prop where
 first:J9 g f2=some (Em,C)
 Ou:T=(List.range (g.R.length+1)).map (g.Dw Em C)
 comes:g.Dg T (g.top+1)=some CC
 Eu:g.BV L E (Gz.B4 L 0) T CC L 0 (Gz.Eh L,[],[])=some (n0,FF,ed)
 spread:Gz.G6 ed f3 ((List.replicate n0 0).set 0 1)=some A
 items:∀K∈L,∀x∈K,x.1<=g.R.length/\x.2<=1000000
 some_:0<Gz.Eh L
 DH:n0<=100000/\L.length<=100000/\ed.length<=1000000
 rules:∀F∈FF,F.length<=100000/\∀f∈F,f.1<=g.R.length/\f.2<n0
 fit:∀e∈ed,e.dst<n0/\e.at_<n0
theorem Im.L2{g:Gz}{L E:List (List It)}{p t:Nat}{j:Nat}{C:List Nat}{T:List (List (Nat×Bool))}{i:List (List AQ)}{I:Nat}{l:List (List It)}{o:List Edge}{A:List Nat}(h:Im g L E p t j C T i I l o A)(k:Nat)(J:k<=g.R.length):(T.getD k []).length=(g.right k).length:=by rw[h.Ou,dG,pG,List.getElem?_range (by omega)];simp[Gz.Dw]
theorem Im.small{g:Gz}{L E:List (List It)}{p t:Nat}{j:Nat}{C:List Nat}{T:List (List (Nat×Bool))}{i:List (List AQ)}{J:Nat}{l:List (List It)}{o:List Edge}{A:List Nat}(h:Im g L E p t j C T i J l o A):Gz.Eh L<=100000:=by have I:=(Mt _ _ _ _ h.Eu).1;have P:=h.DH.1;simp only at I;omega
theorem dQ{j:Type}(F:List j)(m:Nat)(d x:j)(i:Nat)(hF:F.length=i):(F++List.replicate (m+1) d).set i x=(F++[x])++List.replicate m d:=by rw[List.set_append_right _ _ (by omega),hF,Nat.sub_self,List.replicate_succ,List.set_cons_zero];simp
theorem fP{g:Gz}{L E:List (List It)}{base:List Nat}{T:List (List (Nat×Bool))}{i:List (List AQ)}{K:List It}{l:List (List It)}{st j:Nat}{t:List (List It)}{o:List Edge}{r:Nat×List (List It)×List Edge}(h:g.BV L E base T i (K::l) st (j,t,o)=some r) :
  ∃q,g.Ej L E base T i st K (base.getD st 0) (j,[],o)=some q/\g.BV L E base T i l (st+1) (q.1,t++[q.2.1],q.2.2)=some r/\j<=q.1/\q.1<=r.1/\q.2.2.length<=r.2.2.length/\q.2.1∈r.2.1:=by
 unfold Gz.BV at h;cases p:g.Ej L E base T i st K (base.getD st 0) (j,[],o) with
 | none=>simp only[p]at h;cases h
 | some q=>simp only[p]at h;obtain⟨C,I,G,J,R⟩:=Mt l (st+1) _ r h;obtain⟨P,-,U⟩:=LJ _ _ _ _ p;exact⟨q,rfl,h,P,C,I,by rw[J];simp⟩
theorem aL{g:Gz}{L E:List (List It)}{base:List Nat}{T:List (List (Nat×Bool))}{j:List (List AQ)}{x:It}{l:List It}{st a:Nat}{p q:Gz.Cq}(h:g.Ej L E base T j st (x::l) a p=some q) :
  ∃i,g.GB L E base T j st a x p=some i/\g.Ej L E base T j st l (a+1) i=some q/\Et i q:=by
 unfold Gz.Ej at h;cases o:g.GB L E base T j st a x p with
 | none=>simp only[o]at h;cases h
 | some i=>simp only[o]at h;exact⟨i,rfl,h,LJ _ _ _ _ h⟩
theorem Im.Nx{g:Gz}{L E:List (List It)}{I J:Nat}{o:Nat}{C:List Nat}{T:List (List (Nat×Bool))}{l:List (List AQ)}{U:Nat}{p:List (List It)}{t:List Edge}{A:List Nat}(h:Im g L E I J o C T l U p t A):Small L (Gz.B4 L 0):=by
 refine⟨He _ _,fun b P=>?_,fun a0 R=>?_⟩
 ·obtain⟨k,i,e⟩:=List.mem_iff_getElem.1 P
  rw[He]at i;have j:=MS L 0 k _ (eG i);rw[eG (by rw[He];exact i),e]at j;cases j
  have:=KU L k;have:=h.small;omega
 ·obtain⟨k,i,e⟩:=List.mem_iff_getElem.1 R
  exact AX (Tw (by rw[eG i,e])) h.small
theorem Mk.dF{w1 w3 wr:World}{mb J n c:Nat}{v T rv U uv C t o I:Value}{g:Gz}{base:List Nat}{P:List AA}{S:List Nat}{j:List (Option AA×Edge)}{l:List (Value×List It)}(h:Mk w1 w3 wr mb J n c v T rv U uv C t o I g base P S j l){p:AA}(i:P[0]?=some p) :
  Calls Tryz.prog 86 #[p.v,.int .i64 0] wr fun e w'=>(∃b,e=.returned (.bool b))/\Mk w1 w3 w' mb J n c v T rv U uv C t o I g base P (S.set 0 (S.getD 0 0|||1)) j l:=by
 have hr:=h.AJ.room p (mG i);refine(I9 (h.AJ.at_ 0 p i) (i:=0) (by rw[hr];omega)).mono ?_;rintro e w' ⟨rfl,h1,R⟩;exact⟨⟨_,rfl⟩,h.Li (R.one (mG i)) (h.AJ.EG i h1 R)⟩
theorem Dc.start{w1 w3 wr:World}{mb C n c:Nat}{v R rv T U p o l t:Value}{g:Gz}{base:List Nat}{P:List AA}{S:List Nat}{j:List (Option AA×Edge)}{i:List (Value×List It)}(h:Mk w1 w3 wr mb C n c v R rv T U p o l t g base P S j i){st:Nat}{I:Value}(J:i[st]?=some (I,[])) :
  Dc w1 w3 wr wr mb C n c v R rv T U p o l t g base P S j i (i.map (·.2)) st P.length (P.length,[],j.map (·.2)):=by
 refine⟨by simpa using h,rfl,⟨I,J⟩,?_,rfl,AI.refl _ _ _,AG _⟩;rw[Qt];rw[pG,J];rfl
theorem Dc.iD{w1 w3 w0 wr:World}{mb J n c:Nat}{v R rv U uv C t o I:Value}{g:Gz}{base:List Nat}{P:List AA}{S:List Nat}{i:List (Option AA×Edge)}{j:List (Value×List It)}{l:List (List It)}{st T:Nat}{p:Gz.Cq}(h:Dc w1 w3 w0 wr mb J n c v R rv U uv C t o I g base P S i j l st T p):Dc w1 w3 wr wr mb J n c v R rv U uv C t o I g base P S i j l st T p:=
 ⟨h.Bo,h.len,h.row,h.rows,h.JT,AI.refl _ _ _,h.ge⟩
theorem bG(s m:Nat)(h:0<s):(List.replicate s 0).set 0 1++List.replicate m 0=(List.replicate (s+m) 0).set 0 1:=by rw[<-List.set_append_left _ _ (by simpa using h),List.replicate_append_replicate]
def EX(B:Nat)(wr:World)(m:Nat)(v:Value)(l:List (Nat×Nat)):Prop:=∃Z:List (Value×(Nat×Nat)),Z.map (·.2)=l/\wr.ownsRow B 129 2 v Z.length (Z.flatMap Hm)/\∀z∈Z,wr.ownsRow B 3 1 z.1 (Bl m z.2.2).length ((Bl m z.2.2).map AU)
theorem EX.later{B:Nat}{w w':World}{m:Nat}{v:Value}{l:List (Nat×Nat)}(h:EX B w m v l)(i:Below w.heap.size w w'):EX B w' m v l:=by obtain⟨Z,j,o,p⟩:=h;exact⟨Z,j,AS o i,fun z t=>AS (p z t) i⟩
theorem EX.keeps{B j:Nat}{w w':World}{m:Nat}{v:Value}{l:List (Nat×Nat)}(h:EX B w m v l)(i:AI j [76] w w'):EX B w' m v l:=by obtain⟨Z,o,p,t⟩:=h;exact⟨Z,o,i.own p (.inr (by decide)),fun z C=>i.own (t z C) (.inr (by decide))⟩
theorem EX.SF{B:Nat}{w:World}{m:Nat}{v:Value}{l:List (Nat×Nat)}(h:EX B w m v l)(p:l.length<=1000000)(hm:m<=1000000):GH w m v l:=by
 obtain⟨Z,rfl,i,R⟩:=h;unfold GH;rw[lM]at p ⊢;rcases Bv i with⟨J,i⟩|⟨b,c,rfl,J,P,T,_,a1,hb⟩
 ·exact⟨none,0,by rw[J,i],by omega,p,fun k o=>by omega⟩
 ·refine⟨_,c,rfl,T,p,fun k o=>⟨b,0,rfl,P,P,fun j hj=>?_⟩⟩
  obtain⟨z,t⟩:∃z,Z[k]?=some z:=⟨_,eG o⟩
  obtain⟨_,a0⟩:=sG.1 t;have U:(Z.map (·.2)).getD k (0,0)=z.2:=by rw[dG,pG,t];rfl
  have C:=CZ Hm 2 (fun _=>rfl) Z k 0 o (by omega);have I:=CZ Hm 2 (fun _=>rfl) Z k 1 o (by omega);rw[a0]at C I;have ho:=R z (mG t);show ∃x,w.cell? ⟨b,0+k*2+j,none⟩=some x/\(if j=0 then x=.int .i64 (((Z.map (·.2)).getD k (0,0)).1:Nat) else Bz w x (Bl m ((Z.map (·.2)).getD k (0,0)).2))
  rw[U,Nat.zero_add]
  match j,hj with
  | 0,_=>exact⟨_,by rw[Bf i _ (by omega),C];rfl,rfl⟩
  | 1,_=>exact⟨z.1,by rw[Bf i _ (by omega),I];rfl,G3 ho (by have:=Kc m z.2.2;omega)⟩
structure Ft(w wr:World)(m:Nat)(ov:Value)(Z:List (Value×List (Nat×Nat))):Prop where
 below:Below w.heap.size w wr
 row:wr.ownsRow w.heap.size 76 1 ov Z.length (Z.map (·.1))
 own:∀z∈Z,EX w.heap.size wr m z.1 z.2
theorem Ft.start(w:World)(m:Nat):Ft w w m (.slice none 0 0) []:=⟨Below.refl _ _,⟨rfl,.inl ⟨rfl,rfl⟩⟩,fun z i=>by cases i⟩
theorem Ft.later{w wr w2:World}{m:Nat}{j:Value}{Z:List (Value×List (Nat×Nat))}(h:Ft w wr m j Z)(i:Below wr.heap.size wr w2):Ft w w2 m j Z:=
 ⟨h.below.trans (i.mono h.below.size),AS h.row i,fun z l=>(h.own z l).later i⟩
theorem Ft.more{w w2 o:World}{m:Nat}{C:Value}{Z:List (Value×List (Nat×Nat))}(h:Ft w w2 m C Z){tv:Value}{l:List (Nat×Nat)}(p:EX w.heap.size w2 m tv l){A:Option Addr}{c:Nat}
  (I:o.ownsRow w.heap.size 76 1 (.slice A (Z.length+1) c) (Z.length+1) (Z.map (·.1)++[tv])) (j:AI w.heap.size [76] w2 o):Ft w o m (.slice A (Z.length+1) c) (Z++[(tv,l)]):=by
 refine⟨h.below.trans (j.below h.below.size),?_,fun z t=>?_⟩
 ·rw[By,B5]
  exact I
 ·rcases mA.1 t with i|i
  ·exact(h.own z i).keeps j
  ·rw[mS.1 i]
   exact p.keeps j
theorem Ft.fE{w wr:World}{m:Nat}{C:Value}{Z:List (Value×List (Nat×Nat))}(h:Ft w wr m C Z)(p:Z.length<=1000000)(P:∀z∈Z,z.2.length<=1000000)(R:m<=1000000):IC wr m C (Z.map (·.2)):=by
 unfold IC;rw[lM];rcases Bv h.row with⟨o,i⟩|⟨b,c,rfl,o,i,I,_,T,U⟩
 ·exact⟨none,0,by rw[o,i],by omega,p,fun k t=>by omega⟩
 ·refine⟨_,c,rfl,I,p,fun k t=>⟨b,0,rfl,i,i,fun j hj=>?_⟩⟩
  obtain⟨z,l⟩:∃z,Z[k]?=some z:=⟨_,eG t⟩
  obtain rfl:j=0:=by omega
  have J:(Z.map (·.2)).getD k []=z.2:=by rw[dG,pG,l];rfl
  refine⟨z.1,?_,?_⟩
  ·rw[Nat.zero_add,Nat.mul_one,Nat.add_zero,Bf h.row k (by omega),pG,l];rfl
  ·show GH wr m z.1 _
   rw[J];exact(h.own z (mG l)).SF (P z (mG l)) R
theorem W4(g:Gz)(A:List Nat)(i:List It):(g.II A i).length<=g.R.length+1:=by unfold Gz.II;refine AX (List.length_filterMap_le _ _) ?_;simp
theorem OX(g:Gz)(A:List Nat):∀(L:List (List It)) (bs:List Nat) (i:List (List It)),bs.length=L.length->i.length=L.length->g.Hp A L bs i=(List.range L.length).map fun s=>g.II A (g.CX (L.getD s []) (bs.getD s 0)++i.getD s [])
 | [],bs,i,j,l=>by unfold Gz.Hp;simp
 | K::L,[],i,j,l=>by simp at j
 | K::L,b::bs,[],j,l=>by simp at l
 | K::L,b::bs,F::i,j,l=>by unfold Gz.Hp;rw[OX g A L bs i (by simpa using j) (by simpa using l),List.length_cons,List.range_succ_eq_map,List.map_cons,List.map_map];rfl
def L9(B:Nat)(w:World)(m:Nat)(v:Value)(l:List (List (Nat×Nat))):Prop:=IC w m v l/\∃Z:List (Value×List (Nat×Nat)),Z.map (·.2)=l/\w.ownsRow B 76 1 v Z.length (Z.map (·.1))/\∀z∈Z,EX B w m z.1 z.2
theorem EX.low{B i:Nat}{w:World}{m:Nat}{v:Value}{l:List (Nat×Nat)}(h:EX B w m v l)(j:i<=B):EX i w m v l:=by obtain⟨Z,o,p,t⟩:=h;exact⟨Z,o,Ei p j,fun z C=>Ei (t z C) j⟩
theorem Ft.eC{w wr:World}{m:Nat}{j:Value}{Z:List (Value×List (Nat×Nat))}(h:Ft w wr m j Z)(l:Z.length<=1000000)(o:∀z∈Z,z.2.length<=1000000)(p:m<=1000000){B:Nat}(i:B<=w.heap.size):L9 B wr m j (Z.map (·.2)):=
 ⟨h.fE l o p,Z,rfl,Ei h.row i,fun z t=>(h.own z t).low i⟩
end Go.Proofs.YthaacmablcpdfaaGreatDoor
