/- Where the making of lookaheads stands fr. -/
import Derived.Test.YtlogpnoioimhjaaGreatDoorXau
import Derived.Test.YtlogpnoioimhjaaGreatDoorXat
set_option linter.all false
set_option maxRecDepth 100000
set_option maxHeartbeats 16000000
namespace Go.Proofs.YtlogpnoioimhjaaGreatDoor
open Go.RowKit
variable{w':World}{I v:Value}{l:List (Nat×Nat)}{i:List (List AU)}{B J c k mb st:Nat}{o:List Edge}{P:List AH}{j:List (Option AH×Edge)}{K:List It}{S base:List Nat}
def bD:El Tryz.prog 111 130 1 24:=El.of (z:=.slice none 0 0) Tryz.underlying111 (by kernel_rfl) rfl (by decide)
def GW(w:World)(m:Nat)(v:Value)(l:List (Nat×Nat)):Prop:=Bn (fun b=>b<w.heap.size) w v l.length 2 (fun k j x=>if j=0 then x=.int .i64 ((l.getD k (0,0)).1:Nat) else BD w x (Bp m (l.getD k (0,0)).2))
def GW.later{w:World}{m:Nat}(h:GW w m v l)(o:Below w w w'):GW w' m v l:=by
 have t:=o.size;refine(Bn.AE (X:=fun b=>w.heap.size<=b) h (Aj.AJ o) (fun b o i=>by omega) (f':=fun k j x=>if j=0 then x=.int .i64 ((l.getD k (0,0)).1:Nat) else BD w' x (Bp m (l.getD k (0,0)).2)) (fun k j x _ _ i=>?_)).mono (fun b o=>by omega) (fun k j x _ _ i=>i);split at i
 ·rename_i p
  rw[if_pos p];exact i
 ·rename_i p
  rw[if_neg p];exact i.later o
def IS(w:World)(m:Nat)(v:Value)(l:List (List (Nat×Nat))):Prop:=Bn (fun b=>b<w.heap.size) w v l.length 1 (fun k _ x=>GW w m x (l.getD k []))
def IS.later{w:World}{m:Nat}{l:List (List (Nat×Nat))}(h:IS w m v l)(i:Below w w w'):IS w' m v l:=by have p:=i.size;exact(Bn.AE (X:=fun b=>w.heap.size<=b) h (Aj.AJ i) (fun b i o=>by omega) (f':=fun k _ x=>GW w' m x (l.getD k [])) (fun k j x _ _ o=>o.later i)).mono (fun b i=>by omega) (fun k j x _ _ o=>o)
def Px.Vt{i w:World}{o:Nat}{p R P U fv:Value}{g:Gz}{T:List (List (Nat×Bool))}{I:List (List AU)}{V:List (Value×Value)}{L E:List (List It)}{e:Ending}(h:Px i w mb v p R P U fv g T I e w')(a0:GN i v g)(hA:FO i p V L E)(hm:i.heap.size<=mb/\mb<w.heap.size)(hf:i.heap.size<=o/\o<w.heap.size)
  (hT:∀k,k<=g.R.length->(T.getD k []).length=(g.right k).length) (hc:g.Dk T (g.top+1)=some I) :
  e=.returned (.tuple #[])/\∃rv t C l,Ah w' mb 209 (EB v p rv t C l R P U fv)/\Nx i w' mb o v p rv t C l g V L E T I/\Below i i w'/\w.heap.size<=w'.heap.size/\Aj (·=mb) w w':=by
 obtain⟨he,h1,h2,h3,rv,t,C,l,J,r1,r2,r3,r4⟩:=h;have j:∀b,Hm i w w' b->Sx mb o w'.heap.size b:=fun b J=>by obtain⟨h4,h5⟩:=J;refine⟨h5,?_,?_⟩<;>(rintro rfl;omega)
 refine⟨he,rv,t,C,l,J,⟨a0,hA,r1.mono j,r2.mono j,r3.mono j,Bn.mono r4 j (fun k a1 x _ _ hx=>hx.mono j),hT,QG a0.fit _ _ (AF _) hc,(MV _ _ hc).1⟩,h1,h2,h3⟩
def Mk.start{j l:World}{i n:Nat}{rv J P p:Value}{g:Gz}(T:Ah l mb 209 (EB v I rv J P p (.slice none 0 0) (.slice none 0 0) (.slice none 0 0) (.slice (i,0) n n)))(hv:∃x0 x1 x2 x3,v=.agg #[x0,x1,x2,x3])(t:Below j j l)(hm:j.heap.size<=mb)(C:j.heap.size<=i)(hF:Ah l i 270 (Array.replicate n (.slice none 0 0)))(hn:n<=100000) :
  Mk j l l mb i n n v I rv J P p (.slice none 0 0) (.slice none 0 0) (.slice none 0 0) g [] [] [] [] (List.replicate n (.slice none 0 0,[])):=by
 refine⟨t,hv,⟨hm,C,t.size⟩,Aj.refl _ _,T,⟨rfl,.inl ⟨rfl,rfl⟩⟩,⟨rfl,.inl ⟨rfl,rfl⟩⟩,Bw.nil _ _,(fun a3 hp=>by cases hp),⟨rfl,.inl ⟨rfl,rfl⟩⟩,(fun z hz=>by cases hz),?_⟩;refine⟨⟨by simp,.inr ⟨i,n,_,rfl,C,hF,AF _,by unfold maxLen;omega,by simp,by simp⟩⟩,fun k x o=>?_,fun a1 a2 x y o hy a0 k U=>?_⟩
 ·obtain⟨R,rfl⟩:=sG.1 o
  simp;exact⟨rfl,.inl ⟨rfl,rfl⟩⟩
 ·obtain⟨R,rfl⟩:=sG.1 o
  simp[Value.ownBlock]at U
def Gz.Eh(L:List (List It)):Nat:=(L.map List.length).sum
theorem MK:∀(L:List (List It)) (b k:Nat) (K:List It),L[k]?=some K->(Gz.Cd L b)[k]?=some (b+Gz.Eh (L.take k))
 | [],b,k,K,h=>by simp at h
 | i::L,b,0,K,h=>by simp[Gz.Cd,Gz.Eh]
 | i::L,b,k+1,K,h=>by rw[List.getElem?_cons_succ]at h;unfold Gz.Cd;rw[List.getElem?_cons_succ,MK L _ k K h];unfold Gz.Eh;simp;omega
theorem G8:∀(L:List (List It)) (b:Nat),(Gz.Cd L b).length=L.length
 | [],b=>rfl
 | i::L,b=>by unfold Gz.Cd;simp[G8 L]
def Xm{L:List (List It)}(h:L[k]?=some K):(Gz.Cd L 0).take (k+1)=(Gz.Cd L 0).take k++[Gz.Eh (L.take k)]:=by rw[List.take_add_one,MK L 0 k K h];simp
def Pd{L:List (List It)}(h:L[k]?=some K):Gz.Eh (L.take (k+1))=Gz.Eh (L.take k)+K.length:=by unfold Gz.Eh;rw[List.take_add_one,h];simp
def Lx(L:List (List It))(k:Nat):Gz.Eh (L.take k)<=Gz.Eh L:=by unfold Gz.Eh;have h:=congrArg (fun l=>(l.map List.length).sum) (List.take_append_drop k L);simp only[By,List.sum_append]at h;omega
def T5{L:List (List It)}(h:L[k]?=some K):K.length<=Gz.Eh L:=by have i:=Pd h;have j:=Lx L (k+1);omega
theorem MP{g:Gz}{L E:List (List It)}{base:List Nat}{T:List (List (Nat×Bool))}{j:List (List AU)}:∀(l:List (List It)) (st:Nat) (q r:Nat×List (List It)×List Edge),g.B0 L E base T j l st q=some r->q.1<=r.1/\q.2.2.length<=r.2.2.length/\∃G,r.2.1=q.2.1++G/\G.length=l.length
 | [],st,q,r,h=>by
  unfold Gz.B0 at h;cases h
  exact⟨AF _,AF _,[],by simp,rfl⟩
 | K::l,st,q,r,h=>by
  unfold Gz.B0 at h;cases i:g.EJ L E base T j st K (base.getD st 0) (q.1,[],q.2.2) with
  | none=>rw[i]at h;cases h
  | some P=>rw[i]at h;obtain⟨p,t,G,o,C⟩:=MP l (st+1) _ r h;obtain⟨I,-,J⟩:=Nb _ _ _ _ i;simp only at p t o I J;exact⟨by omega,by omega,P.2.1::G,by rw[o];simp,by simp[C]⟩
structure I4(g:Gz)(L E:List (List It))(f2 f3:Nat)(Em:Nat)(C:List Nat)(T:List (List (Nat×Bool)))(CC:List (List AU))(n0:Nat)(FF:List (List It))(ed:List Edge)(A:List Nat):Prop where
 first:KF g f2=some (Em,C)
 Pa:T=(List.range (g.R.length+1)).map (g.DF Em C)
 comes:g.Dk T (g.top+1)=some CC
 Ez:g.B0 L E (Gz.Cd L 0) T CC L 0 (Gz.Eh L,[],[])=some (n0,FF,ed)
 spread:Gz.G7 ed f3 ((List.replicate n0 0).set 0 1)=some A
 items:∀K∈L,∀x∈K,x.1<=g.R.length/\x.2<=1000000
 some_:0<Gz.Eh L
 B7:n0<=100000/\L.length<=100000/\ed.length<=1000000
 rules:∀F∈FF,F.length<=100000/\∀f∈F,f.1<=g.R.length/\f.2<n0
 fit:∀e∈ed,e.dst<n0/\e.at_<n0
variable{g:Gz}{E L:List (List It)}{A C:List Nat}{T:List (List (Nat×Bool))}
def I4.MA{p t:Nat}{j:Nat}{I:Nat}{l:List (List It)}(h:I4 g L E p t j C T i I l o A)(k:Nat)(J:k<=g.R.length):(T.getD k []).length=(g.right k).length:=by rw[h.Pa,dG,pG,List.getElem?_range (by omega)];simp[Gz.DF]
def I4.small{p t:Nat}{j:Nat}{l:List (List It)}(h:I4 g L E p t j C T i J l o A):Gz.Eh L<=100000:=by have I:=(MP _ _ _ _ h.Ez).1;have P:=h.B7.1;simp only at I;omega
def YE{j:Type}(F:List j)(m:Nat)(d x:j)(i:Nat)(hF:F.length=i):(F++List.replicate (m+1) d).set i x=(F++[x])++List.replicate m d:=by rw[List.set_append_right _ _ (by omega),hF,Nat.sub_self,List.replicate_succ,List.set_cons_zero];simp
def Yu{K:List It}{l:List (List It)}{j:Nat}{t:List (List It)}{r:Nat×List (List It)×List Edge}(h:g.B0 L E base T i (K::l) st (j,t,o)=some r) :
  ∃q,g.EJ L E base T i st K (base.getD st 0) (j,[],o)=some q/\g.B0 L E base T i l (st+1) (q.1,t++[q.2.1],q.2.2)=some r/\j<=q.1/\q.1<=r.1/\q.2.2.length<=r.2.2.length/\q.2.1∈r.2.1:=by
 unfold Gz.B0 at h;cases p:g.EJ L E base T i st K (base.getD st 0) (j,[],o) with
 | none=>simp only[p]at h;cases h
 | some q=>simp only[p]at h;obtain⟨C,I,G,J,R⟩:=MP l (st+1) _ r h;obtain⟨P,-,U⟩:=Nb _ _ _ _ p;exact⟨q,rfl,h,P,C,I,by rw[J];simp⟩
theorem kJ{j:List (List AU)}{x:It}{l:List It}{a:Nat}{p q:Gz.Cr}(h:g.EJ L E base T j st (x::l) a p=some q) :
  ∃i,g.GI L E base T j st a x p=some i/\g.EJ L E base T j st l (a+1) i=some q/\EF i q:=by
 unfold Gz.EJ at h;cases o:g.GI L E base T j st a x p with
 | none=>simp only[o]at h;cases h
 | some i=>simp only[o]at h;exact⟨i,rfl,h,Nb _ _ _ _ h⟩
def I4.OZ{I:Nat}{o:Nat}{l:List (List AU)}{U:Nat}{p:List (List It)}{t:List Edge}(h:I4 g L E I J o C T l U p t A):Small L (Gz.Cd L 0):=by
 refine⟨G8 _ _,fun b P=>?_,fun a0 R=>?_⟩
 ·obtain⟨k,i,e⟩:=List.mem_iff_getElem.1 P
  rw[G8]at i;have j:=MK L 0 k _ (eG i);rw[eG (by rw[G8];exact i),e]at j;cases j
  have:=Lx L k;have:=h.small;omega
 ·obtain⟨k,i,e⟩:=List.mem_iff_getElem.1 R
  exact AW (T5 (by rw[eG i,e])) h.small
def Mk.X3{w1 w3 wr:World}{n:Nat}{T rv U uv C t o:Value}{l:List (Value×List It)}(h:Mk w1 w3 wr mb J n c v T rv U uv C t o I g base P S j l){p:AH}(i:P[0]?=some p) :
  () 106 #[p.v,.int .i64 0] wr fun e w'=>(∃b,e=.returned (.bool b))/\Mk w1 w3 w' mb J n c v T rv U uv C t o I g base P (S.set 0 (S.getD 0 0|||1)) j l:=by
 have hr:=h.AK.room p (mG i);refine(Nh (h.AK.at_ 0 p i) (i:=0) (by rw[hr];omega)).mono ?_;rintro e w' ⟨rfl,h1,R⟩;exact⟨⟨_,rfl⟩,h.LM (R.one (mG i)) (h.AK.EY i h1 R)⟩
def C7.start{w1 w3 wr:World}{C n:Nat}{R rv T U p o l t:Value}{i:List (Value×List It)}(h:Mk w1 w3 wr mb C n c v R rv T U p o l t g base P S j i)(J:i[st]?=some (I,[])) :
  C7 w1 w3 wr wr mb C n c v R rv T U p o l t g base P S j i (i.map (·.2)) st P.length (P.length,[],j.map (·.2)):=by
 refine⟨by simpa using h,rfl,⟨I,J⟩,?_,rfl,AI.refl _ _ _,AF _⟩;rw[S1];rw[pG,J];rfl
def C7.jR{w1 w3 w0 wr:World}{n:Nat}{R rv U uv C t o:Value}{i:List (Option AH×Edge)}{j:List (Value×List It)}{l:List (List It)}{T:Nat}{p:Gz.Cr}(h:C7 w1 w3 w0 wr mb J n c v R rv U uv C t o I g base P S i j l st T p):C7 w1 w3 wr wr mb J n c v R rv U uv C t o I g base P S i j l st T p:=
 ⟨h.Bt,h.len,h.row,h.rows,h.JR,AI.refl _ _ _,h.ge⟩
def XH(s m:Nat)(h:0<s):(List.replicate s 0).set 0 1++List.replicate m 0=(List.replicate (s+m) 0).set 0 1:=by rw[<-List.set_append_left _ _ (by simpa using h),List.replicate_append_replicate]
def Fc(B:Nat)(wr:World)(m:Nat)(v:Value)(l:List (Nat×Nat)):Prop:=∃Z:List (Value×(Nat×Nat)),Z.map (·.2)=l/\wr.ownsRow B 168 2 v Z.length (Z.flatMap Ik)/\∀z∈Z,wr.ownsRow B 3 1 z.1 (Bp m z.2.2).length ((Bp m z.2.2).map AV)
def Fc.later{w:World}{m:Nat}(h:Fc B w m v l)(i:Below w w w'):Fc B w' m v l:=by obtain⟨Z,j,o,p⟩:=h;exact⟨Z,j,AS o i,fun z t=>AS (p z t) i⟩
def Fc.keeps{j:Nat}{w:World}{m:Nat}(h:Fc B w m v l)(i:AI j [130] w w'):Fc B w' m v l:=by obtain⟨Z,o,p,t⟩:=h;exact⟨Z,o,i.own p (.inr (by decide)),fun z C=>i.own (t z C) (.inr (by decide))⟩
def Fc.Qn{w:World}{m:Nat}(h:Fc B w m v l)(p:l.length<=1000000)(hm:m<=1000000):GW w m v l:=by
 obtain⟨Z,rfl,i,R⟩:=h;unfold GW;rw[lM]at p ⊢;rcases Bi i with⟨J,i⟩|⟨b,c,rfl,J,P,T,_,a1,hb⟩
 ·exact⟨none,0,by rw[J,i],by omega,p,fun k o=>by omega⟩
 ·refine⟨_,c,rfl,T,p,fun k o=>⟨b,0,rfl,P,P,fun j hj=>?_⟩⟩
  obtain⟨z,t⟩:∃z,Z[k]?=some z:=⟨_,eG o⟩
  obtain⟨_,a0⟩:=sG.1 t;have U:(Z.map (·.2)).getD k (0,0)=z.2:=by rw[dG,pG,t];rfl
  have C:=CJ Ik 2 (fun _=>rfl) Z k 0 o (by omega);have I:=CJ Ik 2 (fun _=>rfl) Z k 1 o (by omega);rw[a0]at C I;have ho:=R z (mG t);show ∃x,w.cell? (b,0+k*2+j)=some x/\(if j=0 then x=.int .i64 (((Z.map (·.2)).getD k (0,0)).1:Nat) else BD w x (Bp m ((Z.map (·.2)).getD k (0,0)).2))
  rw[U,Nat.zero_add]
  match j,hj with
  | 0,_=>exact⟨_,by rw[Bh i _ (by omega),C];rfl,rfl⟩
  | 1,_=>exact⟨z.1,by rw[Bh i _ (by omega),I];rfl,Hu ho (by have:=KO m z.2.2;omega)⟩
structure Fy(w wr:World)(m:Nat)(ov:Value)(Z:List (Value×List (Nat×Nat))):Prop where
 below:Below w w wr
 row:wr.ownsRow w 130 1 ov Z.length (Z.map (·.1))
 own:∀z∈Z,Fc w.heap.size wr m z.1 z.2
variable{w wr:World}{m:Nat}{Z:List (Value×List (Nat×Nat))}
def Fy.start(w:World)(m:Nat):Fy w w m (.slice none 0 0) []:=⟨Below.refl _ _,⟨rfl,.inl ⟨rfl,rfl⟩⟩,fun z i=>by cases i⟩
def Fy.later{w2:World}{j:Value}(h:Fy w wr m j Z)(i:Below wr wr w2):Fy w w2 m j Z:=
 ⟨h.below.trans (i.mono h.below.size),AS h.row i,fun z l=>(h.own z l).later i⟩
def Fy.more{w2 o:World}{C:Value}(h:Fy w w2 m C Z){tv:Value}(p:Fc w.heap.size w2 m tv l){A:Option Addr}
  (I:o.ownsRow w 130 1 (.slice A (Z.length+1) c) (Z.length+1) (Z.map (·.1)++[tv])) (j:AI w [130] w2 o):Fy w o m (.slice A (Z.length+1) c) (Z++[(tv,l)]):=by
 refine⟨h.below.trans (j.below h.below.size),?_,fun z t=>?_⟩
 ·rw[By,B8]
  exact I
 ·rcases mA.1 t with i|i
  ·exact(h.own z i).keeps j
  ·rw[mS.1 i]
   exact p.keeps j
def Fy.Xq{C:Value}(h:Fy w wr m C Z)(p:Z.length<=1000000)(P:∀z∈Z,z.2.length<=1000000)(R:m<=1000000):IS wr m C (Z.map (·.2)):=by
 unfold IS;rw[lM];rcases Bi h.row with⟨o,i⟩|⟨b,c,rfl,o,i,I,_,T,U⟩
 ·exact⟨none,0,by rw[o,i],by omega,p,fun k t=>by omega⟩
 ·refine⟨_,c,rfl,I,p,fun k t=>⟨b,0,rfl,i,i,fun j hj=>?_⟩⟩
  obtain⟨z,l⟩:∃z,Z[k]?=some z:=⟨_,eG t⟩
  obtain rfl:j=0:=by omega
  have J:(Z.map (·.2)).getD k []=z.2:=by rw[dG,pG,l];rfl
  refine⟨z.1,?_,?_⟩
  ·rw[Nat.zero_add,Nat.mul_one,Nat.add_zero,Bh h.row k (by omega),pG,l];rfl
  ·show GW wr m z.1 _
   rw[J];exact(h.own z (mG l)).Qn (P z (mG l)) R
def XG(g:Gz)(A:List Nat)(i:List It):(g.Iz A i).length<=g.R.length+1:=by unfold Gz.Iz;refine AW (List.length_filterMap_le _ _) ?_;simp
theorem Ro(g:Gz)(A:List Nat):∀(L:List (List It)) (bs:List Nat) (i:List (List It)),bs.length=L.length->i.length=L.length->g.Is A L bs i=(List.range L.length).map fun s=>g.Iz A (g.CK (L.getD s []) (bs.getD s 0)++i.getD s [])
 | [],bs,i,j,l=>by unfold Gz.Is;simp
 | K::L,[],i,j,l=>by simp at j
 | K::L,b::bs,[],j,l=>by simp at l
 | K::L,b::bs,F::i,j,l=>by unfold Gz.Is;rw[Ro g A L bs i (by simpa using j) (by simpa using l),List.length_cons,List.range_succ_eq_map,List.map_cons,List.map_map];rfl
def MN(B:Nat)(w:World)(m:Nat)(v:Value)(l:List (List (Nat×Nat))):Prop:=IS w m v l/\∃Z:List (Value×List (Nat×Nat)),Z.map (·.2)=l/\w.ownsRow B 130 1 v Z.length (Z.map (·.1))/\∀z∈Z,Fc B w m z.1 z.2
def Fc.low{i:Nat}(h:Fc B w m v l)(j:i<=B):Fc i w m v l:=by obtain⟨Z,o,p,t⟩:=h;exact⟨Z,o,EP p j,fun z C=>EP (t z C) j⟩
def Fy.WN{j:Value}(h:Fy w wr m j Z)(l:Z.length<=1000000)(o:∀z∈Z,z.2.length<=1000000)(p:m<=1000000)(i:B<=w.heap.size):MN B wr m j (Z.map (·.2)):=
 ⟨h.Xq l o p,Z,rfl,EP h.row i,fun z t=>(h.own z t).low i⟩
end Go.Proofs.YtlogpnoioimhjaaGreatDoor
