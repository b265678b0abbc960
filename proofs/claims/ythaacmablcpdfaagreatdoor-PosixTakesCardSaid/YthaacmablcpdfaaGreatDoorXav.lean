/- Where the making of lookaheads stands fr. -/
import Derived.Test.YthaacmablcpdfaaGreatDoorXau
import Derived.Test.YthaacmablcpdfaaGreatDoorXat
set_option linter.all false
set_option maxRecDepth 100000
set_option maxHeartbeats 16000000
namespace Go.Proofs.YthaacmablcpdfaaGreatDoor
open Go.RowKit
variable{w':World}{I v:Value}{l:List (Nat×Nat)}{i:List (List AX)}{B J c k mb st:Nat}{o:List Edge}{P:List AI}{j:List (Option AI×Edge)}{K:List It}{S base:List Nat}
def dQ:El Tryz.prog 58 76 1 24:=El.of (z:=.slice none 0 0) Tryz.underlying58 (by kernel_rfl) rfl (by decide)
def G2(w:World)(m:Nat)(v:Value)(l:List (Nat×Nat)):Prop:=Bs (fun b=>b<w.heap.size) w v l.length 2 (fun k j x=>if j=0 then x=.int .i64 ((l.getD k (0,0)).1:Nat) else BF w x (Bt m (l.getD k (0,0)).2))
def G2.later{w:World}{m:Nat}(h:G2 w m v l)(o:Below w w w'):G2 w' m v l:=by
 have t:=o.size;refine(Bs.AF (X:=fun b=>w.heap.size<=b) h (Aj.AK o) (fun b o i=>by omega) (f':=fun k j x=>if j=0 then x=.int .i64 ((l.getD k (0,0)).1:Nat) else BF w' x (Bt m (l.getD k (0,0)).2)) (fun k j x _ _ i=>?_)).mono (fun b o=>by omega) (fun k j x _ _ i=>i);split at i
 ·rename_i p
  rw[if_pos p];exact i
 ·rename_i p
  rw[if_neg p];exact i.later o
def ID(w:World)(m:Nat)(v:Value)(l:List (List (Nat×Nat))):Prop:=Bs (fun b=>b<w.heap.size) w v l.length 1 (fun k _ x=>G2 w m x (l.getD k []))
def ID.later{w:World}{m:Nat}{l:List (List (Nat×Nat))}(h:ID w m v l)(i:Below w w w'):ID w' m v l:=by have p:=i.size;exact(Bs.AF (X:=fun b=>w.heap.size<=b) h (Aj.AK i) (fun b i o=>by omega) (f':=fun k _ x=>G2 w' m x (l.getD k [])) (fun k j x _ _ o=>o.later i)).mono (fun b i=>by omega) (fun k j x _ _ o=>o)
def O8.Xu{i w:World}{o:Nat}{p R P U fv:Value}{g:Gz}{T:List (List (Nat×Bool))}{I:List (List AX)}{V:List (Value×Value)}{L E:List (List It)}{e:Ending}(h:O8 i w mb v p R P U fv g T I e w')(a0:GN i v g)(hA:FG i p V L E)(hm:i.heap.size<=mb/\mb<w.heap.size)(hf:i.heap.size<=o/\o<w.heap.size)
  (hT:∀k,k<=g.R.length->(T.getD k []).length=(g.right k).length) (hc:g.Di T (g.top+1)=some I) :
  e=.returned (.tuple #[])/\∃rv t C l,Ah w' mb 192 (EH v p rv t C l R P U fv)/\NM i w' mb o v p rv t C l g V L E T I/\Below i i w'/\w.heap.size<=w'.heap.size/\Aj (·=mb) w w':=by
 obtain⟨he,h1,h2,h3,rv,t,C,l,J,r1,r2,r3,r4⟩:=h;have j:∀b,G3 i w w' b->Sx mb o w'.heap.size b:=fun b J=>by obtain⟨h4,h5⟩:=J;refine⟨h5,?_,?_⟩<;>(rintro rfl;omega)
 refine⟨he,rv,t,C,l,J,⟨a0,hA,r1.mono j,r2.mono j,r3.mono j,Bs.mono r4 j (fun k a1 x _ _ hx=>hx.mono j),hT,Rl a0.fit _ _ (AG _) hc,(M1 _ _ hc).1⟩,h1,h2,h3⟩
def Mk.start{j l:World}{i n:Nat}{rv J P p:Value}{g:Gz}(T:Ah l mb 192 (EH v I rv J P p (.slice none 0 0) (.slice none 0 0) (.slice none 0 0) (.slice (i,0) n n)))(hv:∃x0 x1 x2 x3,v=.agg #[x0,x1,x2,x3])(t:Below j j l)(hm:j.heap.size<=mb)(C:j.heap.size<=i)(hF:Ah l i 246 (Array.replicate n (.slice none 0 0)))(hn:n<=100000) :
  Mk j l l mb i n n v I rv J P p (.slice none 0 0) (.slice none 0 0) (.slice none 0 0) g [] [] [] [] (List.replicate n (.slice none 0 0,[])):=by
 refine⟨t,hv,⟨hm,C,t.size⟩,Aj.refl _ _,T,⟨rfl,.inl ⟨rfl,rfl⟩⟩,⟨rfl,.inl ⟨rfl,rfl⟩⟩,BA.nil _ _,(fun a3 hp=>by cases hp),⟨rfl,.inl ⟨rfl,rfl⟩⟩,(fun z hz=>by cases hz),?_⟩;refine⟨⟨by simp,.inr ⟨i,n,_,rfl,C,hF,AG _,by unfold maxLen;omega,by simp,by simp⟩⟩,fun k x o=>?_,fun a1 a2 x y o hy a0 k U=>?_⟩
 ·obtain⟨R,rfl⟩:=sG.1 o
  simp;exact⟨rfl,.inl ⟨rfl,rfl⟩⟩
 ·obtain⟨R,rfl⟩:=sG.1 o
  simp[Value.ownBlock]at U
def Gz.Eo(L:List (List It)):Nat:=(L.map List.length).sum
theorem MP:∀(L:List (List It)) (b k:Nat) (K:List It),L[k]?=some K->(Gz.Cg L b)[k]?=some (b+Gz.Eo (L.take k))
 | [],b,k,K,h=>by simp at h
 | i::L,b,0,K,h=>by simp[Gz.Cg,Gz.Eo]
 | i::L,b,k+1,K,h=>by rw[List.getElem?_cons_succ]at h;unfold Gz.Cg;rw[List.getElem?_cons_succ,MP L _ k K h];unfold Gz.Eo;simp;omega
theorem Hp:∀(L:List (List It)) (b:Nat),(Gz.Cg L b).length=L.length
 | [],b=>rfl
 | i::L,b=>by unfold Gz.Cg;simp[Hp L]
def YU{L:List (List It)}(h:L[k]?=some K):(Gz.Cg L 0).take (k+1)=(Gz.Cg L 0).take k++[Gz.Eo (L.take k)]:=by rw[List.take_add_one,MP L 0 k K h];simp
def N9{L:List (List It)}(h:L[k]?=some K):Gz.Eo (L.take (k+1))=Gz.Eo (L.take k)+K.length:=by unfold Gz.Eo;rw[List.take_add_one,h];simp
def Ls(L:List (List It))(k:Nat):Gz.Eo (L.take k)<=Gz.Eo L:=by unfold Gz.Eo;have h:=congrArg (fun l=>(l.map List.length).sum) (List.take_append_drop k L);simp only[Bw,List.sum_append]at h;omega
def RT{L:List (List It)}(h:L[k]?=some K):K.length<=Gz.Eo L:=by have i:=N9 h;have j:=Ls L (k+1);omega
theorem MS{g:Gz}{L E:List (List It)}{base:List Nat}{T:List (List (Nat×Bool))}{j:List (List AX)}:∀(l:List (List It)) (st:Nat) (q r:Nat×List (List It)×List Edge),g.B6 L E base T j l st q=some r->q.1<=r.1/\q.2.2.length<=r.2.2.length/\∃G,r.2.1=q.2.1++G/\G.length=l.length
 | [],st,q,r,h=>by
  unfold Gz.B6 at h;cases h
  exact⟨AG _,AG _,[],by simp,rfl⟩
 | K::l,st,q,r,h=>by
  unfold Gz.B6 at h;cases i:g.EI L E base T j st K (base.getD st 0) (q.1,[],q.2.2) with
  | none=>rw[i]at h;cases h
  | some P=>rw[i]at h;obtain⟨p,t,G,o,C⟩:=MS l (st+1) _ r h;obtain⟨I,-,J⟩:=Mf _ _ _ _ i;simp only at p t o I J;exact⟨by omega,by omega,P.2.1::G,by rw[o];simp,by simp[C]⟩
structure Iw(g:Gz)(L E:List (List It))(f2 f3:Nat)(Em:Nat)(C:List Nat)(T:List (List (Nat×Bool)))(CC:List (List AX))(n0:Nat)(FF:List (List It))(ed:List Edge)(A:List Nat):Prop where
 first:J9 g f2=some (Em,C)
 Nf:T=(List.range (g.R.length+1)).map (g.Dz Em C)
 comes:g.Di T (g.top+1)=some CC
 EK:g.B6 L E (Gz.Cg L 0) T CC L 0 (Gz.Eo L,[],[])=some (n0,FF,ed)
 spread:Gz.Hn ed f3 ((List.replicate n0 0).set 0 1)=some A
 items:∀K∈L,∀x∈K,x.1<=g.R.length/\x.2<=1000000
 some_:0<Gz.Eo L
 B3:n0<=100000/\L.length<=100000/\ed.length<=1000000
 rules:∀F∈FF,F.length<=100000/\∀f∈F,f.1<=g.R.length/\f.2<n0
 fit:∀e∈ed,e.dst<n0/\e.at_<n0
variable{g:Gz}{E L:List (List It)}{A C:List Nat}{T:List (List (Nat×Bool))}
def Iw.Mc{p t:Nat}{j:Nat}{I:Nat}{l:List (List It)}(h:Iw g L E p t j C T i I l o A)(k:Nat)(J:k<=g.R.length):(T.getD k []).length=(g.right k).length:=by rw[h.Nf,dG,pG,List.getElem?_range (by omega)];simp[Gz.Dz]
def Iw.small{p t:Nat}{j:Nat}{l:List (List It)}(h:Iw g L E p t j C T i J l o A):Gz.Eo L<=100000:=by have I:=(MS _ _ _ _ h.EK).1;have P:=h.B3.1;simp only at I;omega
def ZR{j:Type}(F:List j)(m:Nat)(d x:j)(i:Nat)(hF:F.length=i):(F++List.replicate (m+1) d).set i x=(F++[x])++List.replicate m d:=by rw[List.set_append_right _ _ (by omega),hF,Nat.sub_self,List.replicate_succ,List.set_cons_zero];simp
def ZP{K:List It}{l:List (List It)}{j:Nat}{t:List (List It)}{r:Nat×List (List It)×List Edge}(h:g.B6 L E base T i (K::l) st (j,t,o)=some r) :
  ∃q,g.EI L E base T i st K (base.getD st 0) (j,[],o)=some q/\g.B6 L E base T i l (st+1) (q.1,t++[q.2.1],q.2.2)=some r/\j<=q.1/\q.1<=r.1/\q.2.2.length<=r.2.2.length/\q.2.1∈r.2.1:=by
 unfold Gz.B6 at h;cases p:g.EI L E base T i st K (base.getD st 0) (j,[],o) with
 | none=>simp only[p]at h;cases h
 | some q=>simp only[p]at h;obtain⟨C,I,G,J,R⟩:=MS l (st+1) _ r h;obtain⟨P,-,U⟩:=Mf _ _ _ _ p;exact⟨q,rfl,h,P,C,I,by rw[J];simp⟩
theorem cO{j:List (List AX)}{x:It}{l:List It}{a:Nat}{p q:Gz.Cv}(h:g.EI L E base T j st (x::l) a p=some q) :
  ∃i,g.GG L E base T j st a x p=some i/\g.EI L E base T j st l (a+1) i=some q/\EC i q:=by
 unfold Gz.EI at h;cases o:g.GG L E base T j st a x p with
 | none=>simp only[o]at h;cases h
 | some i=>simp only[o]at h;exact⟨i,rfl,h,Mf _ _ _ _ h⟩
def Iw.O0{I:Nat}{o:Nat}{l:List (List AX)}{U:Nat}{p:List (List It)}{t:List Edge}(h:Iw g L E I J o C T l U p t A):Small L (Gz.Cg L 0):=by
 refine⟨Hp _ _,fun b P=>?_,fun a0 R=>?_⟩
 ·obtain⟨k,i,e⟩:=List.mem_iff_getElem.1 P
  rw[Hp]at i;have j:=MP L 0 k _ (eG i);rw[eG (by rw[Hp];exact i),e]at j;cases j
  have:=Ls L k;have:=h.small;omega
 ·obtain⟨k,i,e⟩:=List.mem_iff_getElem.1 R
  exact AY (RT (by rw[eG i,e])) h.small
def Mk.fT{w1 w3 wr:World}{n:Nat}{T rv U uv C t o:Value}{l:List (Value×List It)}(h:Mk w1 w3 wr mb J n c v T rv U uv C t o I g base P S j l){p:AI}(i:P[0]?=some p) :
  () 86 #[p.v,.int .i64 0] wr fun e w'=>(∃b,e=.returned (.bool b))/\Mk w1 w3 w' mb J n c v T rv U uv C t o I g base P (S.set 0 (S.getD 0 0|||1)) j l:=by
 have hr:=h.AM.room p (mG i);refine(ME (h.AM.at_ 0 p i) (i:=0) (by rw[hr];omega)).mono ?_;rintro e w' ⟨rfl,h1,R⟩;exact⟨⟨_,rfl⟩,h.Ly (R.one (mG i)) (h.AM.ER i h1 R)⟩
def Db.start{w1 w3 wr:World}{C n:Nat}{R rv T U p o l t:Value}{i:List (Value×List It)}(h:Mk w1 w3 wr mb C n c v R rv T U p o l t g base P S j i)(J:i[st]?=some (I,[])) :
  Db w1 w3 wr wr mb C n c v R rv T U p o l t g base P S j i (i.map (·.2)) st P.length (P.length,[],j.map (·.2)):=by
 refine⟨by simpa using h,rfl,⟨I,J⟩,?_,rfl,AJ.refl _ _ _,AG _⟩;rw[Ub];rw[pG,J];rfl
def Db.WX{w1 w3 w0 wr:World}{n:Nat}{R rv U uv C t o:Value}{i:List (Option AI×Edge)}{j:List (Value×List It)}{l:List (List It)}{T:Nat}{p:Gz.Cv}(h:Db w1 w3 w0 wr mb J n c v R rv U uv C t o I g base P S i j l st T p):Db w1 w3 wr wr mb J n c v R rv U uv C t o I g base P S i j l st T p:=
 ⟨h.Bz,h.len,h.row,h.rows,h.JL,AJ.refl _ _ _,h.ge⟩
def jP(s m:Nat)(h:0<s):(List.replicate s 0).set 0 1++List.replicate m 0=(List.replicate (s+m) 0).set 0 1:=by rw[<-List.set_append_left _ _ (by simpa using h),List.replicate_append_replicate]
def E0(B:Nat)(wr:World)(m:Nat)(v:Value)(l:List (Nat×Nat)):Prop:=∃Z:List (Value×(Nat×Nat)),Z.map (·.2)=l/\wr.ownsRow B 129 2 v Z.length (Z.flatMap Hx)/\∀z∈Z,wr.ownsRow B 3 1 z.1 (Bt m z.2.2).length ((Bt m z.2.2).map AO)
def E0.later{w:World}{m:Nat}(h:E0 B w m v l)(i:Below w w w'):E0 B w' m v l:=by obtain⟨Z,j,o,p⟩:=h;exact⟨Z,j,AV o i,fun z t=>AV (p z t) i⟩
def E0.keeps{j:Nat}{w:World}{m:Nat}(h:E0 B w m v l)(i:AJ j [76] w w'):E0 B w' m v l:=by obtain⟨Z,o,p,t⟩:=h;exact⟨Z,o,i.own p (.inr (by decide)),fun z C=>i.own (t z C) (.inr (by decide))⟩
def E0.SG{w:World}{m:Nat}(h:E0 B w m v l)(p:l.length<=1000000)(hm:m<=1000000):G2 w m v l:=by
 obtain⟨Z,rfl,i,R⟩:=h;unfold G2;rw[lM]at p ⊢;rcases Bk i with⟨J,i⟩|⟨b,c,rfl,J,P,T,_,a1,hb⟩
 ·exact⟨none,0,by rw[J,i],by omega,p,fun k o=>by omega⟩
 ·refine⟨_,c,rfl,T,p,fun k o=>⟨b,0,rfl,P,P,fun j hj=>?_⟩⟩
  obtain⟨z,t⟩:∃z,Z[k]?=some z:=⟨_,eG o⟩
  obtain⟨_,a0⟩:=sG.1 t;have U:(Z.map (·.2)).getD k (0,0)=z.2:=by rw[dG,pG,t];rfl
  have C:=CY Hx 2 (fun _=>rfl) Z k 0 o (by omega);have I:=CY Hx 2 (fun _=>rfl) Z k 1 o (by omega);rw[a0]at C I;have ho:=R z (mG t);show ∃x,w.cell? (b,0+k*2+j)=some x/\(if j=0 then x=.int .i64 (((Z.map (·.2)).getD k (0,0)).1:Nat) else BF w x (Bt m ((Z.map (·.2)).getD k (0,0)).2))
  rw[U,Nat.zero_add]
  match j,hj with
  | 0,_=>exact⟨_,by rw[Bg i _ (by omega),C];rfl,rfl⟩
  | 1,_=>exact⟨z.1,by rw[Bg i _ (by omega),I];rfl,Hh ho (by have:=KE m z.2.2;omega)⟩
structure FH(w wr:World)(m:Nat)(ov:Value)(Z:List (Value×List (Nat×Nat))):Prop where
 below:Below w w wr
 row:wr.ownsRow w 76 1 ov Z.length (Z.map (·.1))
 own:∀z∈Z,E0 w.heap.size wr m z.1 z.2
variable{w wr:World}{m:Nat}{Z:List (Value×List (Nat×Nat))}
def FH.start(w:World)(m:Nat):FH w w m (.slice none 0 0) []:=⟨Below.refl _ _,⟨rfl,.inl ⟨rfl,rfl⟩⟩,fun z i=>by cases i⟩
def FH.later{w2:World}{j:Value}(h:FH w wr m j Z)(i:Below wr wr w2):FH w w2 m j Z:=
 ⟨h.below.trans (i.mono h.below.size),AV h.row i,fun z l=>(h.own z l).later i⟩
def FH.more{w2 o:World}{C:Value}(h:FH w w2 m C Z){tv:Value}(p:E0 w.heap.size w2 m tv l){A:Option Addr}
  (I:o.ownsRow w 76 1 (.slice A (Z.length+1) c) (Z.length+1) (Z.map (·.1)++[tv])) (j:AJ w [76] w2 o):FH w o m (.slice A (Z.length+1) c) (Z++[(tv,l)]):=by
 refine⟨h.below.trans (j.below h.below.size),?_,fun z t=>?_⟩
 ·rw[Bw,BO]
  exact I
 ·rcases mA.1 t with i|i
  ·exact(h.own z i).keeps j
  ·rw[mS.1 i]
   exact p.keeps j
def FH.Zq{C:Value}(h:FH w wr m C Z)(p:Z.length<=1000000)(P:∀z∈Z,z.2.length<=1000000)(R:m<=1000000):ID wr m C (Z.map (·.2)):=by
 unfold ID;rw[lM];rcases Bk h.row with⟨o,i⟩|⟨b,c,rfl,o,i,I,_,T,U⟩
 ·exact⟨none,0,by rw[o,i],by omega,p,fun k t=>by omega⟩
 ·refine⟨_,c,rfl,I,p,fun k t=>⟨b,0,rfl,i,i,fun j hj=>?_⟩⟩
  obtain⟨z,l⟩:∃z,Z[k]?=some z:=⟨_,eG t⟩
  obtain rfl:j=0:=by omega
  have J:(Z.map (·.2)).getD k []=z.2:=by rw[dG,pG,l];rfl
  refine⟨z.1,?_,?_⟩
  ·rw[Nat.zero_add,Nat.mul_one,Nat.add_zero,Bg h.row k (by omega),pG,l];rfl
  ·show G2 wr m z.1 _
   rw[J];exact(h.own z (mG l)).SG (P z (mG l)) R
def Z8(g:Gz)(A:List Nat)(i:List It):(g.IN A i).length<=g.R.length+1:=by unfold Gz.IN;refine AY (List.length_filterMap_le _ _) ?_;simp
theorem QJ(g:Gz)(A:List Nat):∀(L:List (List It)) (bs:List Nat) (i:List (List It)),bs.length=L.length->i.length=L.length->g.Hw A L bs i=(List.range L.length).map fun s=>g.IN A (g.CU (L.getD s []) (bs.getD s 0)++i.getD s [])
 | [],bs,i,j,l=>by unfold Gz.Hw;simp
 | K::L,[],i,j,l=>by simp at j
 | K::L,b::bs,[],j,l=>by simp at l
 | K::L,b::bs,F::i,j,l=>by unfold Gz.Hw;rw[QJ g A L bs i (by simpa using j) (by simpa using l),List.length_cons,List.range_succ_eq_map,List.map_cons,List.map_map];rfl
def Nb(B:Nat)(w:World)(m:Nat)(v:Value)(l:List (List (Nat×Nat))):Prop:=ID w m v l/\∃Z:List (Value×List (Nat×Nat)),Z.map (·.2)=l/\w.ownsRow B 76 1 v Z.length (Z.map (·.1))/\∀z∈Z,E0 B w m z.1 z.2
def E0.low{i:Nat}(h:E0 B w m v l)(j:i<=B):E0 i w m v l:=by obtain⟨Z,o,p,t⟩:=h;exact⟨Z,o,EL p j,fun z C=>EL (t z C) j⟩
def FH.Vv{j:Value}(h:FH w wr m j Z)(l:Z.length<=1000000)(o:∀z∈Z,z.2.length<=1000000)(p:m<=1000000)(i:B<=w.heap.size):Nb B wr m j (Z.map (·.2)):=
 ⟨h.Zq l o p,Z,rfl,EL h.row i,fun z t=>(h.own z t).low i⟩
end Go.Proofs.YthaacmablcpdfaaGreatDoor
