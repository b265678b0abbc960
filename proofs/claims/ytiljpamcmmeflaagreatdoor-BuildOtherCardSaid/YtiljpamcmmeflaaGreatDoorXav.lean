/- . -/
import Derived.Test.YtiljpamcmmeflaaGreatDoorXau
import Derived.Test.YtiljpamcmmeflaaGreatDoorXat
set_option linter.all false
set_option maxRecDepth 100000
set_option maxHeartbeats 16000000
namespace Go.Proofs.YtiljpamcmmeflaaGreatDoor
open Go.RowKit
open Value renaming slice→nC
open Option renaming some→nJ,none→nK
open Go renaming World→nS,Value→nU
variable{w':nS}{t v:nU}{l:List (Nat×Nat)}{i:List (List AZ)}{B J c fb k mb st:Nat}{P:List AH}{j:List (Option AH×Edge)}{K:List It}{o:List Edge}{S base:List Nat}
def bW:El Tryz.prog 137 156 1 24:=El.of (z:=nC nK 0 0) Tryz.underlying137 mU rfl mT
def GF(w:nS)(m:Nat)(v:nU)(l:List (Nat×Nat)):Prop:=Bo (fun b=>b<w.heap.size) w v l.length 2 (fun k j x=>if j=0 then x=.int .i64 ((l.getD k (0,0)).1:Nat) else Bv w x (Bq m (l.getD k (0,0)).2))
def GF.later{w:nS}{m:Nat}(h:GF w m v l)(o:Below w w w'):GF w' m v l:=by
 have t:=o.size;refine(Bo.Ay (X:=fun b=>w.heap.size<=b) h (Aj.AJ o) (fun b o i=>by omega) (f':=fun k j x=>if j=0 then x=.int .i64 ((l.getD k (0,0)).1:Nat) else Bv w' x (Bq m (l.getD k (0,0)).2)) (fun k j x _ _ i=>?_)).mono (fun b o=>by omega) (fun k j x _ _ i=>i);split at i
 ·rename_i p
  rw[if_pos p];exact i
 ·rename_i p
  rw[if_neg p];exact i.later o
def Is(w:nS)(m:Nat)(v:nU)(l:List (List (Nat×Nat))):Prop:=Bo (fun b=>b<w.heap.size) w v l.length 1 (fun k _ x=>GF w m x (l.getD k []))
def Is.later{w:nS}{m:Nat}{l:List (List (Nat×Nat))}(h:Is w m v l)(i:Below w w w'):Is w' m v l:=by have p:=i.size;exact(Bo.Ay (X:=fun b=>w.heap.size<=b) h (Aj.AJ i) (fun b i o=>by omega) (f':=fun k _ x=>GF w' m x (l.getD k [])) (fun k j x _ _ o=>o.later i)).mono (fun b i=>by omega) (fun k j x _ _ o=>o)
def OT.cY{i w:nS}{l J I P R:nU}{g:Gz}{T:List (List (Nat×Bool))}{t:List (List AZ)}{V:List (nU×nU)}{L E:List (List It)}{e:Ending}(h:OT i w mb v l J I P R g T t e w')(a0:GN i v g)(hA:Fu i l V L E)(hm:i.heap.size<=mb/\mb<w.heap.size)(hf:i.heap.size<=fb/\fb<w.heap.size)
  (hT:∀k,k<=g.R.length->(T.getD k []).length=(g.right k).length) (U:g.Db T (g.top+1)=nJ t) :
  e=.returned (.tuple #[])/\∃rv o p cv,Ah w' mb 253 (EH v l rv o p cv J I P R)/\PF i w' mb fb v l rv o p cv g V L E T t/\Below i i w'/\w.heap.size<=w'.heap.size/\Aj (·=mb) w w':=by
 obtain⟨he,h1,h2,h3,rv,o,p,cv,C,r1,r2,r3,r4⟩:=h;have j:∀b,Ho i w w' b->Sx mb fb w'.heap.size b:=fun b C=>by obtain⟨h4,h5⟩:=C;refine⟨h5,?_,?_⟩<;>(rintro rfl;omega)
 refine⟨he,rv,o,p,cv,C,⟨a0,hA,r1.mono j,r2.mono j,r3.mono j,Bo.mono r4 j (fun k a1 x _ _ hx=>hx.mono j),hT,Ud a0.fit _ _ (AF _) U,(M5 _ _ U).1⟩,h1,h2,h3⟩
def Mk.start{i j:nS}{n:Nat}{rv C I cv:nU}{g:Gz}(P:Ah j mb 253 (EH v t rv C I cv (nC nK 0 0) (nC nK 0 0) (nC nK 0 0) (nC (fb,0) n n)))(hv:∃x0 x1 x2 x3,v=.agg #[x0,x1,x2,x3])(o:Below i i j)(T:i.heap.size<=mb)(p:i.heap.size<=fb)(hF:Ah j fb 305 (Array.replicate n (nC nK 0 0)))(hn:n<=100000) :
  Mk i j j mb fb n n v t rv C I cv (nC nK 0 0) (nC nK 0 0) (nC nK 0 0) g [] [] [] [] (List.replicate n (nC nK 0 0,[])):=by
 refine⟨o,hv,⟨T,p,o.size⟩,Aj.refl _ _,P,⟨rfl,.inl ⟨rfl,rfl⟩⟩,⟨rfl,.inl ⟨rfl,rfl⟩⟩,BA.nil _ _,(fun a3 U=>by cases U),⟨rfl,.inl ⟨rfl,rfl⟩⟩,(fun z hz=>by cases hz),?_⟩;refine⟨⟨mV,.inr ⟨fb,n,_,rfl,p,hF,AF _,mW,mV,mV⟩⟩,fun k x l=>?_,fun a1 a2 x y l hy a0 k R=>?_⟩
 ·obtain⟨J,rfl⟩:=sG.1 l
  simp;exact⟨rfl,.inl ⟨rfl,rfl⟩⟩
 ·obtain⟨J,rfl⟩:=sG.1 l
  simp[Value.ownBlock]at R
def Gz.Eb(L:List (List It)):Nat:=(L.map List.length).sum
theorem Mz:∀(L:List (List It)) (b k:Nat) (K:List It),L[k]?=nJ K->(Gz.Ca L b)[k]?=nJ (b+Gz.Eb (L.take k))
 | [],b,k,K,h=>by simp at h
 | i::L,b,0,K,h=>by simp[Gz.Ca,Gz.Eb]
 | i::L,b,k+1,K,h=>by rw[List.getElem?_cons_succ]at h;unfold Gz.Ca;rw[List.getElem?_cons_succ,Mz L _ k K h];unfold Gz.Eb;simp;omega
theorem He:∀(L:List (List It)) (b:Nat),(Gz.Ca L b).length=L.length
 | [],b=>rfl
 | i::L,b=>by unfold Gz.Ca;simp[He L]
def lE{L:List (List It)}(h:L[k]?=nJ K):(Gz.Ca L 0).take (k+1)=(Gz.Ca L 0).take k++[Gz.Eb (L.take k)]:=by rw[List.take_add_one,Mz L 0 k K h];simp
def OF{L:List (List It)}(h:L[k]?=nJ K):Gz.Eb (L.take (k+1))=Gz.Eb (L.take k)+K.length:=by unfold Gz.Eb;rw[List.take_add_one,h];simp
def Lz(L:List (List It))(k:Nat):Gz.Eb (L.take k)<=Gz.Eb L:=by unfold Gz.Eb;have h:=congrArg (fun l=>(l.map List.length).sum) (List.take_append_drop k L);simp only[Bz,List.sum_append]at h;omega
def Tw{L:List (List It)}(h:L[k]?=nJ K):K.length<=Gz.Eb L:=by have i:=OF h;have j:=Lz L (k+1);omega
theorem L3{g:Gz}{L E:List (List It)}{base:List Nat}{T:List (List (Nat×Bool))}{j:List (List AZ)}:∀(l:List (List It)) (st:Nat) (q r:Nat×List (List It)×List Edge),g.B4 L E base T j l st q=nJ r->q.1<=r.1/\q.2.2.length<=r.2.2.length/\∃G,r.2.1=q.2.1++G/\G.length=l.length
 | [],st,q,r,h=>by
  unfold Gz.B4 at h;cases h
  exact⟨AF _,AF _,[],mV,rfl⟩
 | K::l,st,q,r,h=>by
  unfold Gz.B4 at h;cases i:g.EI L E base T j st K (base.getD st 0) (q.1,[],q.2.2) with
  | none=>rw[i]at h;cases h
  | some P=>rw[i]at h;obtain⟨p,t,G,o,C⟩:=L3 l (st+1) _ r h;obtain⟨I,-,J⟩:=MX _ _ _ _ i;simp only at p t o I J;exact⟨mR,mR,P.2.1::G,by rw[o];simp,by simp[C]⟩
structure IU(g:Gz)(L E:List (List It))(f2 f3:Nat)(Em:Nat)(C:List Nat)(T:List (List (Nat×Bool)))(CC:List (List AZ))(n0:Nat)(FF:List (List It))(ed:List Edge)(A:List Nat):Prop where
 first:KG g f2=nJ (Em,C)
 ND:T=(List.range (g.R.length+1)).map (g.DD Em C)
 comes:g.Db T (g.top+1)=nJ CC
 Ex:g.B4 L E (Gz.Ca L 0) T CC L 0 (Gz.Eb L,[],[])=nJ (n0,FF,ed)
 spread:Gz.Hh ed f3 ((List.replicate n0 0).set 0 1)=nJ A
 items:∀K∈L,∀x∈K,x.1<=g.R.length/\x.2<=1000000
 some_:0<Gz.Eb L
 B7:n0<=100000/\L.length<=100000/\ed.length<=1000000
 rules:∀F∈FF,F.length<=100000/\∀f∈F,f.1<=g.R.length/\f.2<n0
 fit:∀e∈ed,e.dst<n0/\e.at_<n0
variable{g:Gz}{E L:List (List It)}{A C:List Nat}{T:List (List (Nat×Bool))}
def IU.Mv{p t:Nat}{j:Nat}{I:Nat}{l:List (List It)}(h:IU g L E p t j C T i I l o A)(k:Nat)(J:k<=g.R.length):(T.getD k []).length=(g.right k).length:=by rw[h.ND,dG,pG,List.getElem?_range mR];simp[Gz.DD]
def IU.small{p t:Nat}{j:Nat}{l:List (List It)}(h:IU g L E p t j C T i J l o A):Gz.Eb L<=100000:=by have I:=(L3 _ _ _ _ h.Ex).1;have P:=h.B7.1;simp only at I;omega
def kT{j:Type}(F:List j)(m:Nat)(d x:j)(i:Nat)(hF:F.length=i):(F++List.replicate (m+1) d).set i x=(F++[x])++List.replicate m d:=by rw[List.set_append_right _ _ mR,hF,Nat.sub_self,List.replicate_succ,List.set_cons_zero];simp
def ZM{K:List It}{l:List (List It)}{j:Nat}{t:List (List It)}{r:Nat×List (List It)×List Edge}(h:g.B4 L E base T i (K::l) st (j,t,o)=nJ r) :
  ∃q,g.EI L E base T i st K (base.getD st 0) (j,[],o)=nJ q/\g.B4 L E base T i l (st+1) (q.1,t++[q.2.1],q.2.2)=nJ r/\j<=q.1/\q.1<=r.1/\q.2.2.length<=r.2.2.length/\q.2.1∈r.2.1:=by
 unfold Gz.B4 at h;cases p:g.EI L E base T i st K (base.getD st 0) (j,[],o) with
 | none=>simp only[p]at h;cases h
 | some q=>simp only[p]at h;obtain⟨C,I,G,J,R⟩:=L3 l (st+1) _ r h;obtain⟨P,-,U⟩:=MX _ _ _ _ p;exact⟨q,rfl,h,P,C,I,by rw[J];simp⟩
theorem Xl{j:List (List AZ)}{x:It}{l:List It}{a:Nat}{p q:Gz.Cr}(h:g.EI L E base T j st (x::l) a p=nJ q) :
  ∃i,g.GJ L E base T j st a x p=nJ i/\g.EI L E base T j st l (a+1) i=nJ q/\Ew i q:=by
 unfold Gz.EI at h;cases o:g.GJ L E base T j st a x p with
 | none=>simp only[o]at h;cases h
 | some i=>simp only[o]at h;exact⟨i,rfl,h,MX _ _ _ _ h⟩
def IU.Pz{I:Nat}{o:Nat}{l:List (List AZ)}{U:Nat}{p:List (List It)}{t:List Edge}(h:IU g L E I J o C T l U p t A):Small L (Gz.Ca L 0):=by
 refine⟨He _ _,fun b P=>?_,fun a0 R=>?_⟩
 ·obtain⟨k,i,e⟩:=List.mem_iff_getElem.1 P
  rw[He]at i;have j:=Mz L 0 k _ (eG i);rw[eG (by rw[He];exact i),e]at j;cases j
  have:=Lz L k;have:=h.small;omega
 ·obtain⟨k,i,e⟩:=List.mem_iff_getElem.1 R
  exact AY (Tw (by rw[eG i,e])) h.small
def Mk.gS{U w3 wr:nS}{n:Nat}{J rv R T cv o C:nU}{l:List (nU×List It)}(h:Mk U w3 wr mb fb n c v J rv R T cv t o C g base P S j l){p:AH}(i:P[0]?=nJ p) :
  () 150 #[p.v,.int .i64 0] wr fun e w'=>(∃b,e=.returned (.bool b))/\Mk U w3 w' mb fb n c v J rv R T cv t o C g base P (S.set 0 (S.getD 0 0|||1)) j l:=by
 have hr:=h.AP.room p (mG i);refine(Nt (h.AP.at_ 0 p i) (i:=0) (by rw[hr];omega)).mono ?_;rintro e w' ⟨rfl,h1,I⟩;exact⟨⟨_,rfl⟩,h.LA (I.one (mG i)) (h.AP.EL i h1 I)⟩
def CZ.start{T U wr:nS}{n:Nat}{I rv J R cv o l p:nU}{i:List (nU×List It)}(h:Mk T U wr mb fb n c v I rv J R cv o l p g base P S j i)(C:i[st]?=nJ (t,[])) :
  CZ T U wr wr mb fb n c v I rv J R cv o l p g base P S j i (i.map (·.2)) st P.length (P.length,[],j.map (·.2)):=by
 refine⟨by simpa using h,rfl,⟨t,C⟩,?_,rfl,AI.refl _ _ _,AF _⟩;rw[RZ];rw[pG,C];rfl
def CZ.Xg{U w3 w0 wr:nS}{n:Nat}{I rv R T cv o C:nU}{i:List (Option AH×Edge)}{j:List (nU×List It)}{l:List (List It)}{p:Gz.Cr}(h:CZ U w3 w0 wr mb fb n c v I rv R T cv t o C g base P S i j l st J p):CZ U w3 wr wr mb fb n c v I rv R T cv t o C g base P S i j l st J p:=
 ⟨h.Bw,h.len,h.row,h.rows,h.JG,AI.refl _ _ _,h.ge⟩
def WY(s m:Nat)(h:0<s):(List.replicate s 0).set 0 1++List.replicate m 0=(List.replicate (s+m) 0).set 0 1:=by rw[<-List.set_append_left _ _ (by simpa using h),List.replicate_append_replicate]
def Fj(B:Nat)(wr:nS)(m:Nat)(v:nU)(l:List (Nat×Nat)):Prop:=∃Z:List (nU×(Nat×Nat)),Z.map (·.2)=l/\wr.ownsRow B 212 2 v Z.length (Z.flatMap Iq)/\∀z∈Z,wr.ownsRow B 3 1 z.1 (Bq m z.2.2).length ((Bq m z.2.2).map AS)
def Fj.later{w:nS}{m:Nat}(h:Fj B w m v l)(i:Below w w w'):Fj B w' m v l:=by obtain⟨Z,j,o,p⟩:=h;exact⟨Z,j,AV o i,fun z t=>AV (p z t) i⟩
def Fj.keeps{j:Nat}{w:nS}{m:Nat}(h:Fj B w m v l)(i:AI j [156] w w'):Fj B w' m v l:=by obtain⟨Z,o,p,t⟩:=h;exact⟨Z,o,i.own p (.inr mT),fun z C=>i.own (t z C) (.inr mT)⟩
def Fj.TR{w:nS}{m:Nat}(h:Fj B w m v l)(p:l.length<=1000000)(hm:m<=1000000):GF w m v l:=by
 obtain⟨Z,rfl,i,R⟩:=h;unfold GF;rw[lM]at p ⊢;rcases Bg i with⟨J,i⟩|⟨b,c,rfl,J,P,T,_,a1,hb⟩
 ·exact⟨nK,0,by rw[J,i],mR,p,fun k o=>by omega⟩
 ·refine⟨_,c,rfl,T,p,fun k o=>⟨b,0,rfl,P,P,fun j hj=>?_⟩⟩
  obtain⟨z,t⟩:∃z,Z[k]?=nJ z:=⟨_,eG o⟩
  obtain⟨_,a0⟩:=sG.1 t;have U:(Z.map (·.2)).getD k (0,0)=z.2:=by rw[dG,pG,t];rfl
  have C:=CR Iq 2 (fun _=>rfl) Z k 0 o mR;have I:=CR Iq 2 (fun _=>rfl) Z k 1 o mR;rw[a0]at C I;have ho:=R z (mG t);show ∃x,w.cell? (b,0+k*2+j)=nJ x/\(if j=0 then x=.int .i64 (((Z.map (·.2)).getD k (0,0)).1:Nat) else Bv w x (Bq m ((Z.map (·.2)).getD k (0,0)).2))
  rw[U,Nat.zero_add]
  match j,hj with
  | 0,_=>exact⟨_,by rw[Bb i _ mR,C];rfl,rfl⟩
  | 1,_=>exact⟨z.1,by rw[Bb i _ mR,I];rfl,G4 ho (by have:=Le m z.2.2;omega)⟩
structure FB(w wr:nS)(m:Nat)(ov:nU)(Z:List (nU×List (Nat×Nat))):Prop where
 below:Below w w wr
 row:wr.ownsRow w 156 1 ov Z.length (Z.map (·.1))
 own:∀z∈Z,Fj w.heap.size wr m z.1 z.2
variable{w wr:nS}{m:Nat}{Z:List (nU×List (Nat×Nat))}
def FB.start(w:nS)(m:Nat):FB w w m (nC nK 0 0) []:=⟨Below.refl _ _,⟨rfl,.inl ⟨rfl,rfl⟩⟩,fun z i=>by cases i⟩
def FB.later{w2:nS}{j:nU}(h:FB w wr m j Z)(i:Below wr wr w2):FB w w2 m j Z:=
 ⟨h.below.trans (i.mono h.below.size),AV h.row i,fun z l=>(h.own z l).later i⟩
def FB.more{w2 o:nS}{C:nU}(h:FB w w2 m C Z){tv:nU}(p:Fj w.heap.size w2 m tv l){A:Option Addr}
  (I:o.ownsRow w 156 1 (nC A (Z.length+1) c) (Z.length+1) (Z.map (·.1)++[tv])) (j:AI w [156] w2 o):FB w o m (nC A (Z.length+1) c) (Z++[(tv,l)]):=by
 refine⟨h.below.trans (j.below h.below.size),?_,fun z t=>?_⟩
 ·rw[Bz,BS]
  exact I
 ·rcases mA.1 t with i|i
  ·exact(h.own z i).keeps j
  ·rw[mS.1 i]
   exact p.keeps j
def FB.Ze{C:nU}(h:FB w wr m C Z)(p:Z.length<=1000000)(P:∀z∈Z,z.2.length<=1000000)(R:m<=1000000):Is wr m C (Z.map (·.2)):=by
 unfold Is;rw[lM];rcases Bg h.row with⟨o,i⟩|⟨b,c,rfl,o,i,I,_,T,U⟩
 ·exact⟨nK,0,by rw[o,i],mR,p,fun k t=>by omega⟩
 ·refine⟨_,c,rfl,I,p,fun k t=>⟨b,0,rfl,i,i,fun j hj=>?_⟩⟩
  obtain⟨z,l⟩:∃z,Z[k]?=nJ z:=⟨_,eG t⟩
  obtain rfl:j=0:=by omega
  have J:(Z.map (·.2)).getD k []=z.2:=by rw[dG,pG,l];rfl
  refine⟨z.1,?_,?_⟩
  ·rw[Nat.zero_add,Nat.mul_one,Nat.add_zero,Bb h.row k mR,pG,l];rfl
  ·show GF wr m z.1 _
   rw[J];exact(h.own z (mG l)).TR (P z (mG l)) R
def ZH(g:Gz)(A:List Nat)(i:List It):(g.II A i).length<=g.R.length+1:=by unfold Gz.II;refine AY (List.length_filterMap_le _ _) ?_;simp
theorem TI(g:Gz)(A:List Nat):∀(L:List (List It)) (bs:List Nat) (i:List (List It)),bs.length=L.length->i.length=L.length->g.Hz A L bs i=(List.range L.length).map fun s=>g.II A (g.CJ (L.getD s []) (bs.getD s 0)++i.getD s [])
 | [],bs,i,j,l=>by unfold Gz.Hz;simp
 | K::L,[],i,j,l=>by simp at j
 | K::L,b::bs,[],j,l=>by simp at l
 | K::L,b::bs,F::i,j,l=>by unfold Gz.Hz;rw[TI g A L bs i (by simpa using j) (by simpa using l),List.length_cons,List.range_succ_eq_map,List.map_cons,List.map_map];rfl
def MB(B:Nat)(w:nS)(m:Nat)(v:nU)(l:List (List (Nat×Nat))):Prop:=Is w m v l/\∃Z:List (nU×List (Nat×Nat)),Z.map (·.2)=l/\w.ownsRow B 156 1 v Z.length (Z.map (·.1))/\∀z∈Z,Fj B w m z.1 z.2
def Fj.low{i:Nat}(h:Fj B w m v l)(j:i<=B):Fj i w m v l:=by obtain⟨Z,o,p,t⟩:=h;exact⟨Z,o,DW p j,fun z C=>DW (t z C) j⟩
def FB.Wq{j:nU}(h:FB w wr m j Z)(l:Z.length<=1000000)(o:∀z∈Z,z.2.length<=1000000)(p:m<=1000000)(i:B<=w.heap.size):MB B wr m j (Z.map (·.2)):=
 ⟨h.Ze l o p,Z,rfl,DW h.row i,fun z t=>(h.own z t).low i⟩
