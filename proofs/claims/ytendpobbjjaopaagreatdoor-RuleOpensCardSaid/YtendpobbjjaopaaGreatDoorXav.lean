/- . -/
import Derived.Test.YtendpobbjjaopaaGreatDoorXau
import Derived.Test.YtendpobbjjaopaaGreatDoorXat
set_option linter.all false
set_option maxRecDepth 100000
set_option maxHeartbeats 16000000
namespace Go.Proofs.YtendpobbjjaopaaGreatDoor
open Go.RowKit
open Value renaming slice→oG
open Option renaming some→oM,none→oN
open Go renaming World→oU,Value→oV
variable{w':oU}{lv v:oV}{l:List (Nat×Nat)}{i:List (List AV)}{B I J c k mb st:Nat}{o:List Edge}{P:List AH}{j:List (Option AH×Edge)}{K:List It}{S base:List Nat}
def iU:El Tryz.prog 105 124 1 24:=El.of (z:=oG oN 0 0) Tryz.underlying105 nZ rfl nY
def GY(w:oU)(m:Nat)(v:oV)(l:List (Nat×Nat)):Prop:=Bq (fun b=>b<w.heap.size) w v l.length 2 (fun k j x=>if j=0 then x=.int .i64 ((l.getD k (0,0)).1:Nat) else BF w x (Bs m (l.getD k (0,0)).2))
def GY.later{w:oU}{m:Nat}(h:GY w m v l)(o:Below w w w'):GY w' m v l:=by
 have t:=o.size;refine(Bq.AA (X:=fun b=>w.heap.size<=b) h (Am.AJ o) (fun b o i=>by omega) (f':=fun k j x=>if j=0 then x=.int .i64 ((l.getD k (0,0)).1:Nat) else BF w' x (Bs m (l.getD k (0,0)).2)) (fun k j x _ _ i=>?_)).mono (fun b o=>by omega) (fun k j x _ _ i=>i);split at i
 ·rename_i p
  rw[if_pos p];exact i
 ·rename_i p
  rw[if_neg p];exact i.later o
def I1(w:oU)(m:Nat)(v:oV)(l:List (List (Nat×Nat))):Prop:=Bq (fun b=>b<w.heap.size) w v l.length 1 (fun k _ x=>GY w m x (l.getD k []))
def I1.later{w:oU}{m:Nat}{l:List (List (Nat×Nat))}(h:I1 w m v l)(i:Below w w w'):I1 w' m v l:=by have p:=i.size;exact(Bq.AA (X:=fun b=>w.heap.size<=b) h (Am.AJ i) (fun b i o=>by omega) (f':=fun k _ x=>GY w' m x (l.getD k [])) (fun k j x _ _ o=>o.later i)).mono (fun b i=>by omega) (fun k j x _ _ o=>o)
def OI.nf{i w:oU}{o:Nat}{P J ev R:oV}{g:Gz}{T:List (List (Nat×Bool))}{C:List (List AV)}{V:List (oV×oV)}{L E:List (List It)}{e:Ending}(h:OI i w mb v lv P J ev R g T C e w')(a0:GN i v g)(hA:FE i lv V L E)(hm:i.heap.size<=mb/\mb<w.heap.size)(hf:i.heap.size<=o/\o<w.heap.size)
  (hT:∀k,k<=g.R.length->(T.getD k []).length=(g.right k).length) (U:g.Di T (g.top+1)=oM C) :
  e=.returned (.tuple #[])/\∃rv p t l,Ah w' mb 217 (Et v lv rv p t l P J ev R)/\NS i w' mb o v lv rv p t l g V L E T C/\Below i i w'/\w.heap.size<=w'.heap.size/\Am (·=mb) w w':=by
 obtain⟨he,h1,h2,h3,rv,p,t,l,I,r1,r2,r3,r4⟩:=h;have j:∀b,Hp i w w' b->Sx mb o w'.heap.size b:=fun b I=>by obtain⟨h4,h5⟩:=I;refine⟨h5,?_,?_⟩<;>(rintro rfl;omega)
 refine⟨he,rv,p,t,l,I,⟨a0,hA,r1.mono j,r2.mono j,r3.mono j,Bq.mono r4 j (fun k a1 x _ _ hx=>hx.mono j),hT,UB a0.fit _ _ (Ay _) U,(Np _ _ U).1⟩,h1,h2,h3⟩
def Mk.start{j l:oU}{i n:Nat}{rv I J p:oV}{g:Gz}(R:Ah l mb 217 (Et v lv rv I J p (oG oN 0 0) (oG oN 0 0) (oG oN 0 0) (oG (i,0) n n)))(hv:∃x0 x1 x2 x3,v=.agg #[x0,x1,x2,x3])(t:Below j j l)(U:j.heap.size<=mb)(C:j.heap.size<=i)(hF:Ah l i 278 (Array.replicate n (oG oN 0 0)))(hn:n<=100000) :
  Mk j l l mb i n n v lv rv I J p (oG oN 0 0) (oG oN 0 0) (oG oN 0 0) g [] [] [] [] (List.replicate n (oG oN 0 0,[])):=by
 refine⟨t,hv,⟨U,C,t.size⟩,Am.refl _ _,R,⟨rfl,.inl ⟨rfl,rfl⟩⟩,⟨rfl,.inl ⟨rfl,rfl⟩⟩,BD.nil _ _,(fun a3 hp=>by cases hp),⟨rfl,.inl ⟨rfl,rfl⟩⟩,(fun z hz=>by cases hz),?_⟩;refine⟨⟨oA,.inr ⟨i,n,_,rfl,C,hF,Ay _,oB,oA,oA⟩⟩,fun k x o=>?_,fun a1 a2 x y o hy a0 k T=>?_⟩
 ·obtain⟨P,rfl⟩:=sG.1 o
  simp;exact⟨rfl,.inl ⟨rfl,rfl⟩⟩
 ·obtain⟨P,rfl⟩:=sG.1 o
  simp[Value.ownBlock]at T
def Gz.Eo(L:List (List It)):Nat:=(L.map List.length).sum
theorem MC:∀(L:List (List It)) (b k:Nat) (K:List It),L[k]?=oM K->(Gz.Cf L b)[k]?=oM (b+Gz.Eo (L.take k))
 | [],b,k,K,h=>by simp at h
 | i::L,b,0,K,h=>by simp[Gz.Cf,Gz.Eo]
 | i::L,b,k+1,K,h=>by rw[List.getElem?_cons_succ]at h;unfold Gz.Cf;rw[List.getElem?_cons_succ,MC L _ k K h];unfold Gz.Eo;simp;omega
theorem G9:∀(L:List (List It)) (b:Nat),(Gz.Cf L b).length=L.length
 | [],b=>rfl
 | i::L,b=>by unfold Gz.Cf;simp[G9 L]
def mj{L:List (List It)}(h:L[k]?=oM K):(Gz.Cf L 0).take (k+1)=(Gz.Cf L 0).take k++[Gz.Eo (L.take k)]:=by rw[List.take_add_one,MC L 0 k K h];simp
def OB{L:List (List It)}(h:L[k]?=oM K):Gz.Eo (L.take (k+1))=Gz.Eo (L.take k)+K.length:=by unfold Gz.Eo;rw[List.take_add_one,h];simp
def LC(L:List (List It))(k:Nat):Gz.Eo (L.take k)<=Gz.Eo L:=by unfold Gz.Eo;have h:=congrArg (fun l=>(l.map List.length).sum) (List.take_append_drop k L);simp only[BB,List.sum_append]at h;omega
def Tg{L:List (List It)}(h:L[k]?=oM K):K.length<=Gz.Eo L:=by have i:=OB h;have j:=LC L (k+1);omega
theorem MT{g:Gz}{L E:List (List It)}{base:List Nat}{T:List (List (Nat×Bool))}{j:List (List AV)}:∀(l:List (List It)) (st:Nat) (q r:Nat×List (List It)×List Edge),g.B0 L E base T j l st q=oM r->q.1<=r.1/\q.2.2.length<=r.2.2.length/\∃G,r.2.1=q.2.1++G/\G.length=l.length
 | [],st,q,r,h=>by
  unfold Gz.B0 at h;cases h
  exact⟨Ay _,Ay _,[],oA,rfl⟩
 | K::l,st,q,r,h=>by
  unfold Gz.B0 at h;cases i:g.EJ L E base T j st K (base.getD st 0) (q.1,[],q.2.2) with
  | none=>rw[i]at h;cases h
  | some P=>rw[i]at h;obtain⟨p,t,G,o,C⟩:=MT l (st+1) _ r h;obtain⟨I,-,J⟩:=Mt _ _ _ _ i;simp only at p t o I J;exact⟨nX,nX,P.2.1::G,by rw[o];simp,by simp[C]⟩
structure I7(g:Gz)(L E:List (List It))(f2 f3:Nat)(Em:Nat)(C:List Nat)(T:List (List (Nat×Bool)))(CC:List (List AV))(n0:Nat)(FF:List (List It))(ed:List Edge)(A:List Nat):Prop where
 first:Lp g f2=oM (Em,C)
 Oa:T=(List.range (g.R.length+1)).map (g.DB Em C)
 comes:g.Di T (g.top+1)=oM CC
 EK:g.B0 L E (Gz.Cf L 0) T CC L 0 (Gz.Eo L,[],[])=oM (n0,FF,ed)
 spread:Gz.Hv ed f3 ((List.replicate n0 0).set 0 1)=oM A
 items:∀K∈L,∀x∈K,x.1<=g.R.length/\x.2<=1000000
 some_:0<Gz.Eo L
 Cm:n0<=100000/\L.length<=100000/\ed.length<=1000000
 rules:∀F∈FF,F.length<=100000/\∀f∈F,f.1<=g.R.length/\f.2<n0
 fit:∀e∈ed,e.dst<n0/\e.at_<n0
variable{g:Gz}{E L:List (List It)}{A C:List Nat}{T:List (List (Nat×Bool))}
def I7.Mu{p t:Nat}{j:Nat}{l:List (List It)}(h:I7 g L E p t j C T i I l o A)(k:Nat)(J:k<=g.R.length):(T.getD k []).length=(g.right k).length:=by rw[h.Oa,dG,pG,List.getElem?_range nX];simp[Gz.DB]
def I7.small{p t:Nat}{j:Nat}{l:List (List It)}(h:I7 g L E p t j C T i J l o A):Gz.Eo L<=100000:=by have I:=(MT _ _ _ _ h.EK).1;have P:=h.Cm.1;simp only at I;omega
def YD{j:Type}(F:List j)(m:Nat)(d x:j)(i:Nat)(hF:F.length=i):(F++List.replicate (m+1) d).set i x=(F++[x])++List.replicate m d:=by rw[List.set_append_right _ _ nX,hF,Nat.sub_self,List.replicate_succ,List.set_cons_zero];simp
def fN{K:List It}{l:List (List It)}{j:Nat}{t:List (List It)}{r:Nat×List (List It)×List Edge}(h:g.B0 L E base T i (K::l) st (j,t,o)=oM r) :
  ∃q,g.EJ L E base T i st K (base.getD st 0) (j,[],o)=oM q/\g.B0 L E base T i l (st+1) (q.1,t++[q.2.1],q.2.2)=oM r/\j<=q.1/\q.1<=r.1/\q.2.2.length<=r.2.2.length/\q.2.1∈r.2.1:=by
 unfold Gz.B0 at h;cases p:g.EJ L E base T i st K (base.getD st 0) (j,[],o) with
 | none=>simp only[p]at h;cases h
 | some q=>simp only[p]at h;obtain⟨C,I,G,J,R⟩:=MT l (st+1) _ r h;obtain⟨P,-,U⟩:=Mt _ _ _ _ p;exact⟨q,rfl,h,P,C,I,by rw[J];simp⟩
theorem Yx{j:List (List AV)}{x:It}{l:List It}{a:Nat}{p q:Gz.Cw}(h:g.EJ L E base T j st (x::l) a p=oM q) :
  ∃i,g.GK L E base T j st a x p=oM i/\g.EJ L E base T j st l (a+1) i=oM q/\Ez i q:=by
 unfold Gz.EJ at h;cases o:g.GK L E base T j st a x p with
 | none=>simp only[o]at h;cases h
 | some i=>simp only[o]at h;exact⟨i,rfl,h,Mt _ _ _ _ h⟩
def I7.OK{o:Nat}{l:List (List AV)}{U:Nat}{p:List (List It)}{t:List Edge}(h:I7 g L E I J o C T l U p t A):Small L (Gz.Cf L 0):=by
 refine⟨G9 _ _,fun b P=>?_,fun a0 R=>?_⟩
 ·obtain⟨k,i,e⟩:=List.mem_iff_getElem.1 P
  rw[G9]at i;have j:=MC L 0 k _ (eG i);rw[eG (by rw[G9];exact i),e]at j;cases j
  have:=LC L k;have:=h.small;omega
 ·obtain⟨k,i,e⟩:=List.mem_iff_getElem.1 R
  exact AW (Tg (by rw[eG i,e])) h.small
def Mk.YP{U w3 wr:oU}{n:Nat}{rv R T C t o ev:oV}{l:List (oV×List It)}(h:Mk U w3 wr mb I n c v lv rv R T C t o ev g base P S j l){p:AH}(i:P[0]?=oM p) :
  () 132 #[p.v,.int .i64 0] wr fun e w'=>(∃b,e=.returned (.bool b))/\Mk U w3 w' mb I n c v lv rv R T C t o ev g base P (S.set 0 (S.getD 0 0|||1)) j l:=by
 have hr:=h.AM.room p (mG i);refine(M9 (h.AM.at_ 0 p i) (i:=0) (by rw[hr];omega)).mono ?_;rintro e w' ⟨rfl,h1,J⟩;exact⟨⟨_,rfl⟩,h.Kb (J.one (mG i)) (h.AM.E0 i h1 J)⟩
def Dc.start{T U wr:oU}{t n:Nat}{rv J R p o l ev:oV}{i:List (oV×List It)}(h:Mk T U wr mb t n c v lv rv J R p o l ev g base P S j i){C:oV}(I:i[st]?=oM (C,[])) :
  Dc T U wr wr mb t n c v lv rv J R p o l ev g base P S j i (i.map (·.2)) st P.length (P.length,[],j.map (·.2)):=by
 refine⟨by simpa using h,rfl,⟨C,I⟩,?_,rfl,AI.refl _ _ _,Ay _⟩;rw[Qo];rw[pG,I];rfl
def Dc.iA{U w3 w0 wr:oU}{n:Nat}{rv R T C t o ev:oV}{i:List (Option AH×Edge)}{j:List (oV×List It)}{l:List (List It)}{p:Gz.Cw}(h:Dc U w3 w0 wr mb I n c v lv rv R T C t o ev g base P S i j l st J p):Dc U w3 wr wr mb I n c v lv rv R T C t o ev g base P S i j l st J p:=
 ⟨h.By,h.len,h.row,h.rows,h.JJ,AI.refl _ _ _,h.ge⟩
def mT(s m:Nat)(h:0<s):(List.replicate s 0).set 0 1++List.replicate m 0=(List.replicate (s+m) 0).set 0 1:=by rw[<-List.set_append_left _ _ (by simpa using h),List.replicate_append_replicate]
def E8(B:Nat)(wr:oU)(m:Nat)(v:oV)(l:List (Nat×Nat)):Prop:=∃Z:List (oV×(Nat×Nat)),Z.map (·.2)=l/\wr.ownsRow B 165 2 v Z.length (Z.flatMap Iu)/\∀z∈Z,wr.ownsRow B 3 1 z.1 (Bs m z.2.2).length ((Bs m z.2.2).map AY)
def E8.later{w:oU}{m:Nat}(h:E8 B w m v l)(i:Below w w w'):E8 B w' m v l:=by obtain⟨Z,j,o,p⟩:=h;exact⟨Z,j,AU o i,fun z t=>AU (p z t) i⟩
def E8.keeps{j:Nat}{w:oU}{m:Nat}(h:E8 B w m v l)(i:AI j [124] w w'):E8 B w' m v l:=by obtain⟨Z,o,p,t⟩:=h;exact⟨Z,o,i.own p (.inr nY),fun z C=>i.own (t z C) (.inr nY)⟩
def E8.RY{w:oU}{m:Nat}(h:E8 B w m v l)(p:l.length<=1000000)(hm:m<=1000000):GY w m v l:=by
 obtain⟨Z,rfl,i,R⟩:=h;unfold GY;rw[lM]at p ⊢;rcases Bj i with⟨J,i⟩|⟨b,c,rfl,J,P,T,_,a1,hb⟩
 ·exact⟨oN,0,by rw[J,i],nX,p,fun k o=>by omega⟩
 ·refine⟨_,c,rfl,T,p,fun k o=>⟨b,0,rfl,P,P,fun j hj=>?_⟩⟩
  obtain⟨z,t⟩:∃z,Z[k]?=oM z:=⟨_,eG o⟩
  obtain⟨_,a0⟩:=sG.1 t;have U:(Z.map (·.2)).getD k (0,0)=z.2:=by rw[dG,pG,t];rfl
  have C:=CP Iu 2 (fun _=>rfl) Z k 0 o nX;have I:=CP Iu 2 (fun _=>rfl) Z k 1 o nX;rw[a0]at C I;have ho:=R z (mG t);show ∃x,w.cell? (b,0+k*2+j)=oM x/\(if j=0 then x=.int .i64 (((Z.map (·.2)).getD k (0,0)).1:Nat) else BF w x (Bs m ((Z.map (·.2)).getD k (0,0)).2))
  rw[U,Nat.zero_add]
  match j,hj with
  | 0,_=>exact⟨_,by rw[Bh i _ nX,C];rfl,rfl⟩
  | 1,_=>exact⟨z.1,by rw[Bh i _ nX,I];rfl,Hi ho (by have:=KZ m z.2.2;omega)⟩
structure FJ(w wr:oU)(m:Nat)(ov:oV)(Z:List (oV×List (Nat×Nat))):Prop where
 below:Below w w wr
 row:wr.ownsRow w 124 1 ov Z.length (Z.map (·.1))
 own:∀z∈Z,E8 w.heap.size wr m z.1 z.2
variable{w wr:oU}{m:Nat}{Z:List (oV×List (Nat×Nat))}
def FJ.start(w:oU)(m:Nat):FJ w w m (oG oN 0 0) []:=⟨Below.refl _ _,⟨rfl,.inl ⟨rfl,rfl⟩⟩,fun z i=>by cases i⟩
def FJ.later{w2:oU}{j:oV}(h:FJ w wr m j Z)(i:Below wr wr w2):FJ w w2 m j Z:=
 ⟨h.below.trans (i.mono h.below.size),AU h.row i,fun z l=>(h.own z l).later i⟩
def FJ.more{w2 o:oU}{C:oV}(h:FJ w w2 m C Z){tv:oV}(p:E8 w.heap.size w2 m tv l){A:Option Addr}
  (I:o.ownsRow w 124 1 (oG A (Z.length+1) c) (Z.length+1) (Z.map (·.1)++[tv])) (j:AI w [124] w2 o):FJ w o m (oG A (Z.length+1) c) (Z++[(tv,l)]):=by
 refine⟨h.below.trans (j.below h.below.size),?_,fun z t=>?_⟩
 ·rw[BB,Cb]
  exact I
 ·rcases mA.1 t with i|i
  ·exact(h.own z i).keeps j
  ·rw[mS.1 i]
   exact p.keeps j
def FJ.Wf{C:oV}(h:FJ w wr m C Z)(p:Z.length<=1000000)(P:∀z∈Z,z.2.length<=1000000)(R:m<=1000000):I1 wr m C (Z.map (·.2)):=by
 unfold I1;rw[lM];rcases Bj h.row with⟨o,i⟩|⟨b,c,rfl,o,i,I,_,T,U⟩
 ·exact⟨oN,0,by rw[o,i],nX,p,fun k t=>by omega⟩
 ·refine⟨_,c,rfl,I,p,fun k t=>⟨b,0,rfl,i,i,fun j hj=>?_⟩⟩
  obtain⟨z,l⟩:∃z,Z[k]?=oM z:=⟨_,eG t⟩
  obtain rfl:j=0:=by omega
  have J:(Z.map (·.2)).getD k []=z.2:=by rw[dG,pG,l];rfl
  refine⟨z.1,?_,?_⟩
  ·rw[Nat.zero_add,Nat.mul_one,Nat.add_zero,Bh h.row k nX,pG,l];rfl
  ·show GY wr m z.1 _
   rw[J];exact(h.own z (mG l)).RY (P z (mG l)) R
def Wo(g:Gz)(A:List Nat)(i:List It):(g.IA A i).length<=g.R.length+1:=by unfold Gz.IA;refine AW (List.length_filterMap_le _ _) ?_;simp
theorem RB(g:Gz)(A:List Nat):∀(L:List (List It)) (bs:List Nat) (i:List (List It)),bs.length=L.length->i.length=L.length->g.Ij A L bs i=(List.range L.length).map fun s=>g.IA A (g.CU (L.getD s []) (bs.getD s 0)++i.getD s [])
 | [],bs,i,j,l=>by unfold Gz.Ij;simp
 | K::L,[],i,j,l=>by simp at j
 | K::L,b::bs,[],j,l=>by simp at l
 | K::L,b::bs,F::i,j,l=>by unfold Gz.Ij;rw[RB g A L bs i (by simpa using j) (by simpa using l),List.length_cons,List.range_succ_eq_map,List.map_cons,List.map_map];rfl
def Ny(B:Nat)(w:oU)(m:Nat)(v:oV)(l:List (List (Nat×Nat))):Prop:=I1 w m v l/\∃Z:List (oV×List (Nat×Nat)),Z.map (·.2)=l/\w.ownsRow B 124 1 v Z.length (Z.map (·.1))/\∀z∈Z,E8 B w m z.1 z.2
def E8.low{i:Nat}(h:E8 B w m v l)(j:i<=B):E8 i w m v l:=by obtain⟨Z,o,p,t⟩:=h;exact⟨Z,o,EN p j,fun z C=>EN (t z C) j⟩
def FJ.aZ{j:oV}(h:FJ w wr m j Z)(l:Z.length<=1000000)(o:∀z∈Z,z.2.length<=1000000)(p:m<=1000000)(i:B<=w.heap.size):Ny B wr m j (Z.map (·.2)):=
 ⟨h.Wf l o p,Z,rfl,EN h.row i,fun z t=>(h.own z t).low i⟩
