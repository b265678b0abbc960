/- . -/
import Derived.Test.YtendpobbjjaopaaGreatDoorXcj
set_option linter.all false
set_option maxRecDepth 100000
set_option maxHeartbeats 16000000
namespace Go.Proofs.YtendpobbjjaopaaGreatDoor
open Go.RowKit
open Value renaming int→oH,pointer→oI,bool→oK
open Option renaming some→oM,none→oN
open IntKind renaming i64→oO
open Ending renaming returned→oQ
open Go renaming World→oU
variable{s:Nat}{w:oU}
section
set_option maxRecDepth 1000000
def Oi:List Nat:=[0,8,8,8,0,2,0,0,0,0,0,0,0,0,0,2,0,2,2,0,2,0,0,0,1,2,3,4,5,6,7,7,7,7,7,7,6,7,6,7,7,8,9,9,0,8,8,2,0,1,0,9,9,9,9,9,9,9,9,9,0,2,0,0,2,0,3,0,3,3,0,2,2,2,5,6,7,6,7,7,7,6,7,2,6,1,1,0,2,0,2,6,6,2,6,1,0,0,6,0,0,0,0,5,6,6,5,0,1,2,0,0,2,0,0,0,5,0,0,2,4,3,0,0,2,2,4,0,0,5,1,0,1,0,3,0,0,3,1,0,3,0,0,1,1,0,0,0,3,2,0,2,2,0,0,0,2,2,0,2,0,0,0,0,0,0,2,2,2,2,0,0,0,0]
def FV(s:Nat):Nat:=Oi.getD s 0
def Jn(A b:Nat):Nat->List Nat->Bool
 | u,[]=>match FG AS u A with|some q=>decide (FV q+1<b)|none=>false
 | s,X::l=>s != 0&&(List.range 174).all fun p=>(AS.getD p []).all fun x=>x.2 != s||(x.1==X&&Jn A b p l)
def dV:(AS.all fun l=>l.all fun x=>decide (0<x.2/\x.2<174))=true:=by decide +kernel
def Mr(s:Nat)(x:Nat×Nat):Bool:=if x.1=104 then x.2==1&&(s != 0&&(List.range 174).all fun p=>(AS.getD p []).all fun y=>y.2 != s||p==0) else decide (x.1<104)&&(s != 0&&Jn (pz.Br x.1).1 ((pz.right x.1).length+FV s) s (pz.right x.1).reverse)
def dA:((List.range 174).all fun s=>(Bv.getD s []).all (Mr s))=true:=by decide +kernel
def PZ{p:Nat}{x:It}(h:x∈AS.getD p []):0<x.2/\x.2<174/\p<174:=by
 have l:p<174:=by
  rcases Nat.lt_or_ge p 174 with i|i
  ·exact i
  ·rw[dG,nG (by exact i)]at h
   cases h
 rw[dG,eG (by exact l)]at h;have o:=List.all_eq_true.1 (List.all_eq_true.1 dV _ (List.getElem_mem _)) x h;have j:=of_decide_eq_true o;exact⟨j.1,j.2,l⟩
def Qs{x:Nat×Nat}(h:x∈Bv.getD s []):Mr s x=true:=by
 have j:s<174:=by
  rcases Nat.lt_or_ge s 174 with i|i
  ·exact i
  ·rw[dG,nG (by exact i)]at h
   cases h
 exact List.all_eq_true.1 (List.all_eq_true.1 dA s (List.mem_range.2 j)) x h
def Qq(s t:Nat):(AZ pz AS Bv s t).1=0\/((AZ pz AS Bv s t).1=1/\0<t/\(t,(AZ pz AS Bv s t).2)∈AS.getD s []) \/
  ((AZ pz AS Bv s t).1=3/\t=0/\s≠0/\∀p X,(X,s)∈AS.getD p []->p=0) \/
  ((AZ pz AS Bv s t).1=2/\(AZ pz AS Bv s t).2<104/\s≠0/\Jn (pz.Br (AZ pz AS Bv s t).2).1 ((pz.right (AZ pz AS Bv s t).2).length+FV s) s (pz.right (AZ pz AS Bv s t).2).reverse=true):=by
 unfold AZ;cases R:pz.Ia (AS.getD s []) (Bv.getD s []) t with
 | nil=>exact .inl rfl
 | cons a l=>
  have ha:a∈pz.Ia (AS.getD s []) (Bv.getD s []) t:=by rw[R];exact List.mem_cons_self
  unfold Gz.Ia at ha;simp only[List.headD_cons];rcases mA.1 ha with ha|ha
  ·rcases mA.1 ha with ha|ha
   ·obtain⟨x,o,rfl⟩:=List.mem_map.1 ha
    split at o
    ·rename_i h0
     obtain⟨C,j⟩:=List.mem_filter.1 o;obtain rfl:x.1=t:=by simpa using j
     exact .inr (.inl ⟨rfl,h0,C⟩)
    ·cases o
   ·obtain⟨x,o,rfl⟩:=List.mem_map.1 ha
    obtain⟨C,j⟩:=List.mem_filter.1 o;have i:=Qs C;rw[Bool.and_eq_true,beq_iff_eq]at j;unfold Mr at i;rw[if_pos (show x.1=104 from j.1)]at i;simp only[Bool.and_eq_true,beq_iff_eq,bne_iff_ne,List.all_eq_true,Bool.or_eq_true]at i;refine .inr (.inr (.inl ⟨rfl,?_,i.2.1,fun p X P=>?_⟩))
    ·have J:=j.2
     rw[i.1]at J;exact Nat.testBit_one_eq_true_iff_self_eq_zero.1 J
    ·rcases i.2.2 p (List.mem_range.2 (PZ P).2.2) _ P with I|I
     ·exact absurd rfl I
     ·exact I
  ·obtain⟨x,o,rfl⟩:=List.mem_map.1 ha
   obtain⟨C,j⟩:=List.mem_filter.1 o;have i:=Qs C;rw[Bool.and_eq_true,bne_iff_ne]at j;unfold Mr at i;rw[if_neg (show ¬x.1=104 from j.1)]at i;simp only[Bool.and_eq_true,bne_iff_ne,decide_eq_true_eq]at i;exact .inr (.inr (.inr ⟨rfl,i.1,i.2.1,i.2.2⟩))
theorem X4{u A q:Nat}(h:FG AS u A=oM q):(A,q)∈AS.getD u []:=by
 unfold FG at h;cases i:(AS.getD u []).find? (fun x=>x.1==A) with
 | none=>unfold DE at h;rw[i]at h;cases h
 | some x=>
  unfold DE at h;rw[i]at h;have j:=List.find?_some i;have l:=List.mem_of_find?_eq_some i;obtain⟨y,z⟩:=x;simp only at h;split at h
  ·simp only[beq_iff_eq,Int.toNat_natCast,Option.some.injEq]at j h
   subst j h;exact l
  ·cases h
def Km:List Nat->List Nat->Prop
 | [],i=>i=[0]
 | X::j,i=>∃q u r,i=q::u::r/\(X,q)∈AS.getD u []/\Km j (u::r)
theorem QS:∀{xs st:List Nat},Km xs st->st.length=xs.length+1/\∀s∈st,s<174
 | [],st,h=>by cases (show st=[0] from h);exact⟨rfl,nY⟩
 | X::xs,st,h=>by
  obtain⟨q,u,r,rfl,j,l⟩:=h;obtain⟨o,p⟩:=QS l;refine⟨by rw[List.length_cons,o];rfl,fun s i=>?_⟩;rcases List.mem_cons.1 i with rfl|i
  ·exact(PZ j).2.1
  ·exact p s i
theorem P9{A b:Nat}:∀{l xs st:List Nat} {s:Nat},Km xs (s::st)->Jn A b s l=true ->
  l.length<=xs.length/\xs.take l.length=l/\∃u r q,(s::st).drop l.length=u::r/\Km (xs.drop l.length) (u::r)/\FG AS u A=oM q/\FV q+1<b
 | [],xs,st,s,h,i=>by
  refine⟨AX _,rfl,s,st,?_⟩;unfold Jn at i;split at i
  ·rename_i q P
   exact⟨q,rfl,h,P,of_decide_eq_true i⟩
  ·cases i
 | X::l,xs,st,s,h,i=>by
  unfold Jn at i;simp only[Bool.and_eq_true,bne_iff_ne,List.all_eq_true,Bool.or_eq_true,beq_iff_eq]at i;cases xs with
  | nil=>exact absurd (List.cons.inj (show s::st=[0] from h)).1 i.1
  | cons Y xs=>
   obtain⟨q,u,r,e,o,p⟩:=h;cases e
   rcases i.2 u (List.mem_range.2 (PZ o).2.2) _ o with j|⟨j,t⟩
   ·exact absurd rfl j
   ·obtain⟨C,I,J⟩:=P9 p t
    refine⟨Nat.succ_le_succ C,?_,J⟩;rw[List.length_cons,List.take_succ_cons,I];exact congrArg (·::l) j
end
theorem Zk(l:List Nat):∀(j:List Nd) (i:Nat),(GX j l)[i]?=(j[i]?).map fun x=>if i∈l then{x with below:=true} else x:=by
 induction l with
 | nil=>intro j i;simp[GX]
 | cons k l p=>
  intro j i;rw[show GX j (k::l)=GX (j.modify k fun x=>{x with below:=true}) l from rfl,p,List.getElem?_modify];cases j[i]? with
  | none=>rfl
  | some x=>
   by_cases h:k=i
   ·subst h
    simp
   ·have o:¬i=k:=fun e=>h e.symm
    simp[h,o]
structure Dn(c:Ce)(N:Nat):Prop where
 path:∃xs,Km xs c.st/\xs.length=c.ns.length
 free:∀k∈c.ns,∃x,c.tr[k]?=oM x/\x.below=false
 nd:c.ns.Nodup
 size:c.tr.length+c.st.length+FV (c.st.headD 0)<=11*N+10
variable{c:Ce}{N:Nat}
def Dn.start:Dn ⟨[0],[],[]⟩ 0:=⟨⟨[],rfl,rfl⟩,fun k i=>(by cases i),List.nodup_nil,by decide +kernel⟩
def Dn.mono{M:Nat}(h:Dn c N)(i:N<=M):Dn c M:=⟨h.path,h.free,h.nd,by have:=h.size;omega⟩
theorem Dn.len(h:Dn c N):c.st.length=c.ns.length+1/\(∀s∈c.st,s<AS.length)/\∃s st,c.st=s::st:=by
 obtain⟨t,l,p⟩:=h.path;obtain⟨i,j⟩:=QS l;refine⟨nX,j,?_⟩;cases o:c.st with
 | nil=>rw[o]at i;cases i
 | cons s st=>exact⟨s,st,rfl⟩
def Dn.add{M:Nat}(h:Dn c N){m q u X:Nat}{r xs:List Nat}{n:Nd}(T:Km xs (u::r))(j:xs.length=c.ns.length-m)(U:(X,q)∈AS.getD u [])(P:n.below=false)
  (hs:c.tr.length+1+(r.length+2)+FV q<=11*M+10):Dn ⟨q::u::r,c.tr.length::c.ns.drop m,GX c.tr (c.ns.take m).reverse++[n]⟩ M:=by
 have p:(GX c.tr (c.ns.take m).reverse).length=c.tr.length:=by
  have J:∀(l:List Nat) (t:List Nd),(GX t l).length=t.length:=by
   intro l;induction l with
   | nil=>exact fun _=>rfl
   | cons k l ih=>exact fun t=>(ih _).trans (List.length_modify ..)
  exact J _ _
 have I:∀k∈c.ns,k<c.tr.length:=fun k i=>by obtain⟨x,j,-⟩:=h.free k i;exact(sG.1 j).1
 refine⟨⟨X::xs,⟨q,u,r,rfl,U,T⟩,by simp only[List.length_cons,List.length_drop];omega⟩,fun k i=>?_,?_,?_⟩
 ·rcases List.mem_cons.1 i with rfl|i
  ·exact⟨n,by rw[<-p];exact List.getElem?_concat_length,P⟩
  ·obtain⟨x,j,R⟩:=h.free k (List.mem_of_mem_drop i)
   have o:k ∉ (c.ns.take m).reverse:=fun o=>by have C:=h.nd;rw[<-List.take_append_drop m c.ns]at C;exact(List.nodup_append.1 C).2.2 k (List.mem_reverse.1 o) k i rfl
   refine⟨x,?_,R⟩;rw[gL (by rw[p];exact I k (List.mem_of_mem_drop i)),Zk,j,Option.map_some,if_neg o]
 ·exact List.nodup_cons.2 ⟨fun i=>Nat.lt_irrefl _ (I _ (List.mem_of_mem_drop i)),(List.drop_sublist m c.ns).nodup h.nd⟩
 ·simp only[Cb,List.length_cons,List.length_nil,p,List.headD_cons]at hs ⊢
  omega
def Dn.red(h:Dn c N){k:Nat}{st:List Nat}(C:c.st=s::st)(hk:k<104)(h0:s≠0)(J:Jn (pz.Br k).1 ((pz.right k).length+FV s) s (pz.right k).reverse=true) :
  (pz.right k).length<=c.ns.length/\0<c.ns.length/\LO c.tr (c.ns.take (pz.right k).length).reverse=true/\∃u r q,(s::st).drop (pz.right k).length=u::r/\FG AS u (pz.Br k).1=oM q/\Dn (c.red pz k u q r) N/\(q::u::r).length+FV q<(s::st).length+FV s:=by
 obtain⟨xs,j,t⟩:=h.path;rw[C]at j;obtain⟨I,-,u,r,q,i,l,o,h6⟩:=P9 j J;rw[List.length_reverse]at I i l;have T:=congrArg List.length i;simp only[List.length_drop,List.length_cons]at T;have p:=h.size;rw[C]at p;simp only[List.length_cons,List.headD_cons]at p;refine⟨nX,?_,?_,u,r,q,i,o,h.add (n:=⟨(pz.Br k).1,-1,k,(c.ns.take (pz.right k).length).reverse,false,false⟩) l (by rw[List.length_drop,t]) (X4 o) rfl nX,by simp only[List.length_cons];omega⟩
 ·cases xs with
  | nil=>exact absurd (List.cons.inj (show s::st=[0] from j)).1 h0
  | cons a b=>rw[<-t];exact Nat.succ_pos _
 ·unfold LO
  rw[Bool.and_eq_true,decide_eq_true_eq,List.all_eq_true];refine⟨(List.reverse_perm _).nodup_iff.2 ((List.take_sublist _ _).nodup h.nd),fun a0 R=>?_⟩;obtain⟨x,U,P⟩:=h.free a0 (List.mem_of_mem_take (List.mem_reverse.1 R));rw[U,Option.map_some,P];rfl
theorem Dn.run{t:Nat}(hN:N<=40):∀{f:Nat} {c:Ce},Dn c N->c.st.length+FV (c.st.headD 0)<f ->
  ∃s r j,Fh pz AS Bv t f c.st=oM (AZ pz AS Bv s t)/\Hg pz AS Bv t f c=oM (AZ pz AS Bv s t,j)/\Dn j N/\j.st=s::r/\(AZ pz AS Bv s t).1≠2:=by
 intro f;induction f with
 | zero=>intro c _ h;exact absurd h (Nat.not_lt_zero _)
 | succ f ih=>
  intro c h P;have J:=h.size;obtain⟨-,-,s,st,i⟩:=h.len;by_cases l:(AZ pz AS Bv s t).1=2
  ·obtain⟨p,h0,hc⟩:(AZ pz AS Bv s t).2<104/\s≠0/\Jn (pz.Br (AZ pz AS Bv s t).2).1 ((pz.right (AZ pz AS Bv s t).2).length+FV s) s (pz.right (AZ pz AS Bv s t).2).reverse=true:=by
    rcases Qq s t with o|⟨o,-⟩|⟨o,-⟩|⟨-,o⟩
    ·omega
    ·omega
    ·omega
    ·exact o
   obtain⟨R,T,U,u,r,q,C,I,a6,a7⟩:=h.red i p h0 hc;rw[i]at P J;simp only[List.length_cons,List.headD_cons]at P a7 J;obtain⟨s',r',j,b1,b2,b3⟩:=ih a6 (by show (q::u::r).length+FV q<f;simp only[List.length_cons];omega);refine⟨s',r',j,?_,?_,b3⟩
   ·unfold Fh
    rw[i];simp only;rw[if_pos l,if_pos ⟨p,by simp only[List.length_cons];omega⟩,C];simp only;rw[I];exact b1
   ·unfold Hg
    rw[i];simp only;rw[if_pos l,if_pos ⟨p,by simp only[List.length_cons];omega,R,T,nX,U⟩,C];simp only;rw[I];exact b2
  ·refine⟨s,st,c,?_,?_,h,i,l⟩
   ·unfold Fh
    rw[i];simp only;rw[if_neg l]
   ·unfold Hg
    rw[i];simp only;rw[if_neg l]
theorem Dn.push(h:Dn c N){t n:Nat}{r:List Nat}(o:c.st=s::r)(h0:0<t)(ha:(AZ pz AS Bv s t).1≠0)(p:(AZ pz AS Bv s t).1≠2) :
  Dn (c.push t n (AZ pz AS Bv s t).2) (N+1):=by
 rcases Qq s t with i|⟨i,-,J⟩|⟨-,i,-⟩|⟨i,-⟩
 ·exact absurd i ha
 ·have P:∀q,FV q<=9:=fun q=>by
   unfold FV;rw[dG];cases R:Oi[q]? with
   | none=>exact AX _
   | some x=>exact of_decide_eq_true (List.all_eq_true.1 (show (Oi.all fun r=>decide (r<=9))=true by decide) x (mG R))
  have T:=P (AZ pz AS Bv s t).2;obtain⟨U,l,I⟩:=h.path;have j:=h.size;rw[o]at l j;simp only[List.length_cons,List.headD_cons]at j;have C:=h.add (M:=N+1) (m:=0) (n:=⟨t,n,-1,[],true,false⟩) l I J rfl nX;unfold Ce.push;rw[o];exact C
 ·omega
 ·exact absurd i p
def Gn(t w:oU)(i:Nat)(N:Nat)(c:Ce):Prop:=∃p l T steps o j,CF t w i p l c.st c.ns T false steps o j/\T.map (·.1)=c.tr/\Dn c N/\steps<=1002*N
def Gn.later{j y:oU}{i:Nat}(h:Gn j w i N c)(p:Below w.heap.size w y):Gn j y i N c:=by obtain⟨J,C,T,steps,I,t,l,o⟩:=h;exact⟨J,C,T,steps,I,t,l.later p,o⟩
def Gn.base{i:oU}{j:Nat}(h:Gn i w j N c):Below i.heap.size i w:=by obtain⟨I,t,T,steps,C,p,l,o⟩:=h;exact l.base
def Gn.can{I:oU}{j:Nat}(h:Gn I w j N c)(p:N<=40):Fo w (oI (oM ⟨j,0,oN⟩)) (FY c):=by
 obtain⟨tb,rb,T,steps,sv,nv,o,P,i,R⟩:=h;obtain⟨l1,C,-⟩:=i.len;refine Sg o nX C fun t ht=>?_
 have U:=i.size;obtain⟨s,r,J,l,-⟩:=Dn.run (t:=t) p (f:=1000) i nX;exact⟨_,l⟩
def Gn.push{R:oU}{j:Nat}(h:Gn R w j N c)(hN:N<40)(x:Int)(l:Nat):Calls Tryz.prog 19 #[oI (oM ⟨j,0,oN⟩),oH oO x,oH oO l] w fun e w'=>(∃k:Int,e=oQ (oH oO k))/\∃i,Gn R w' j (N+1) i:=by
 obtain⟨I,rb,a6,steps,sv,nv,o,T,C,h3⟩:=h;have ab:pz.nt=38:=rfl;obtain⟨l1,l2,-⟩:=C.len;have hs:=C.size;have a0:w.cell? ⟨I,5,oN⟩=oM (oH oO (pz.nt:Nat))/\I<w.heap.size:=by obtain⟨AT,nT,cT,AN,nN,cN,AR,nR,cR,gs,Ar,cr,nn,Aa,na,ca,Ag,ng,cg,U,-,-,-⟩:=(o.GO.later o.base).use;have t5:=Ah.cell U 5;simp at t5;exact⟨t5,U.lt⟩
 have a3:(1<=x->x<=pz.nt->Calls Tryz.prog 42 #[oI (oM ⟨j,0,oN⟩),oH oO x] w fun e w'=>e=oQ (oK false)/\Below w.heap.size w w')->Calls Tryz.prog 19 #[oI (oM ⟨j,0,oN⟩),oH oO x,oH oO l] w fun e w'=>(∃k:Int,e=oQ (oH oO k))/\∃i,Gn R w' j (N+1) i:=fun hc=>(iG (l:=l) o.box a0.1 a0.2 hc).mono fun e w' ⟨k,_,P,hb⟩=>⟨⟨k,P⟩,c,I,rb,a6,steps,sv,nv,o.later hb,T,C.mono nX,nX⟩
 by_cases hx:0<x/\x<=38
 ·obtain⟨t,rfl⟩:=Int.eq_ofNat_of_zero_le (show 0<=x by omega)
  obtain⟨s,r,i,a1,a2,J,a4,a5⟩:=Dn.run (t:=t) nX (f:=1000) C nX;have p:=PL o nX t (fun _ _=>a1) l2;by_cases ha:(AZ pz AS Bv s t).1=0
  ·rw[decide_eq_false (fun h=>h.2.2 ha)]at p
   exact a3 fun _ _=>p
  ·rw[decide_eq_true ⟨nX,nX,ha⟩]at p
   have ad:=J.size;have aa:=J.len.1;refine(Zd (l:=l) o T l1 nX nX p a2 l2 (Ay _) nX ⟨by show i.st.length<=9000;omega,by show i.ns.length<=9000;omega,by show i.tr.length<=90000;omega⟩).mono fun e w' ⟨P,T',a8,a9,a7,b1,b2,b3,_⟩=>?_
   exact⟨⟨0,P⟩,_,I,rb,T',a8,a9,a7,b1,b2,J.push a4 nX ha a5,nX⟩
 ·exact a3 fun h5 h6=>absurd ⟨nX,nX⟩ hx
def lX:El Tryz.prog 28 4 1 1:=El.of (z:=oK false) Tryz.underlying28 nZ rfl nY
def IZ(c:Ce)(k:Nat):List Value:=(List.range k).map fun i=>oK (FY c (i:Nat))
def ZD(c:Ce)(k:Nat):IZ c (k+1)=IZ c k++[oK (FY c (k:Nat))]:=by unfold IZ;rw[List.range_succ,BB];rfl
def eC(w:oU)(e:Ending)(w':oU):Prop:=∃i v P,e=oQ (.tuple #[oI (oM ⟨i,0,oN⟩),v])/\Below w.heap.size w w'/\Fo w' (oI (oM ⟨i,0,oN⟩)) P/\JW w' v P
def mC{tb:Nat}(h:Gu w tb){A:Option Addr}{n ca:Nat}(hn:n<=40)(hl:∀k,k<n->∃b off,A=oM ⟨b,off,oN⟩/\b<w.heap.size/\∃x:Int,w.cell? ⟨b,off+k,oN⟩=oM (oH oO x)) :
  Calls Tryz.prog 6 #[oI (oM ⟨tb,0,oN⟩),.slice A n ca] w (eC w):=by
 have a0:=Hd (St h (RO h));have HL:=Hd hl;clear h hl;go_enter Tryz.func6,Tryz.ntmps6
 go_wp2_with (go_at_call 15;refine a0.out.mono ?_;rintro e w1 ⟨R,rb,sv,rfl,I,C⟩;have l:Hid (Gn w w1 R 0 JD):=Hd ⟨_,_,_,_,_,_,I,rfl,Dn.start,Ay _⟩;clear I C a0)
 go_loopw [7] (fun i wr=>∃(k:Nat) (c:Ce),k<=n/\i=oH oO k/\Hid (Gn w wr R k c)) (fun i _=>n-(intOf i).toNat)
 case atStart=>exact⟨0,_,AX _,rfl,l⟩
 case round=>
  clear l;obtain⟨k,c,hk,rfl,l⟩:=hrel;by_cases ad:k<n
  ·obtain⟨b,off,rfl,a2,x,hx⟩:=HL.out k ad
   have d0:=(l.out.base.cell (p:=⟨b,off+k,oN⟩) a2).trans hx;have dl:=A0 a2 l.out.base.size;have HP:=Hd (l.out.push nX x k);clear hx l;go_wp2_with (go_at_call 19;refine HP.out.mono ?_;rintro e w2 ⟨⟨q,rfl⟩,c2,I⟩;have a5:=Hd I;clear I)
   go_roundw
   case rel=>exact⟨k+1,c2,nX,oD,a5⟩
   case measure=>simp[intOf];omega
  ·obtain rfl:k=n:=by omega
   rename oU=>o
   have U:=Hd l.out.base;have T:=l.out.can hn;have HC:=Hd fun y (hy:Below o.heap.size o y) (t:Int)=>T t y hy
   have a4:=Hd T;clear T l HL;obtain⟨F,hF⟩:∃F:Int->Bool,∀t,FY c t=F t:=⟨_,fun _=>rfl⟩
   have a1:∀k,IZ c (k+1)=IZ c k++[oK (F (k:Nat))]:=fun k=>by rw[<-hF];exact ZD c k
   have a7:=Hd a1;simp only[hF]at HC;have af:=Hd hF;clear a1 hF;go_wp2;go_loopw [8,9] (fun ae i wr=>∃k:Nat,k<=39/\i=oH oO k/\Hid (wr.ownsRow o.heap.size 4 1 ae k (IZ c k))/\Hid (Below o.heap.size o wr)) (fun _ i _=>39-(intOf i).toNat)
   case atStart=>exact⟨0,nX,rfl,Hd ⟨rfl,.inl ⟨rfl,rfl⟩⟩,Hd (Below.refl _ _)⟩
   case round=>
    obtain⟨j,ai,rfl,P,p⟩:=hrel;obtain⟨Ao,co,rfl⟩:=CG P.out;by_cases aj:j<39
    ·have ag:(j:Int)<=38:=by omega
     have aa:=Hd (HC.out _ p.out j);have ab:=Hd (Lu 4 (oK (F (j:Nat))) rfl);have a6:=Hd (a7.out j);generalize F (j:Nat)=x at *;go_wp2_with (first
      | (go_at_call 20;refine aa.out.mono ?_;rintro e w5 ⟨rfl,C⟩;have J:=Hd (p.out.trans (C.mono p.out.size));have a8:=Hd (AU P.out C);clear C)
      | (
       at_builtin;refine DC lX (.tmp 29) (.tmp 33) rfl rfl (base:=o.heap.size) (n:=j) (m:=1) (N:=j+1) (xs:=IZ c j) (news:=[oK x]) rfl rfl (a8.out.alloc _) (ab.out _) rfl oB nX (by have:=J.out.size;simp;omega) ?_
       intro A6 c6 w6 r1 r2 r3;have a9:Hid (w6.ownsRow o.heap.size 4 1 (.slice A6 (j+1) c6) (j+1) (IZ c (j+1))):=Hd (by rw[a6.out];exact r1);have a3:=Hd ((J.out.alloc J.out.size _).trans (r2.below (by have:=J.out.size;simp;omega)));clear r1 r2 r3))
     go_roundw
     case rel=>exact⟨j+1,nX,oD,a9,a3⟩
     case measure=>simp[intOf];omega
    ·obtain rfl:j=39:=by omega
     have ah:¬((39:Nat):Int)<=38:=by omega
     go_wp2
     go_ret2
     refine⟨R,_,FY c,rfl,U.out.trans (p.out.mono U.out.size),a4.out.later p.out,?_,dT c⟩;rcases Bj P.out with⟨-,e⟩|⟨g,c',e,-,hg,-⟩
     ·cases e
     ·cases e
      refine⟨g,co,rfl,hg,fun k hk=>?_⟩;rw[Bh P.out k nX];unfold IZ;rw[pG,List.getElem?_range hk];rfl
