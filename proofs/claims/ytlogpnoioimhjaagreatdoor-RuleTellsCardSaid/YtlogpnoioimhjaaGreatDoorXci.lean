/- The engine at the POSIX tables. -/
import Derived.Test.YtlogpnoioimhjaaGreatDoorXcf
set_option linter.all false
set_option maxRecDepth 100000
set_option maxHeartbeats 16000000
namespace Go.Proofs.YtlogpnoioimhjaaGreatDoor
open Go.RowKit
variable{s:Nat}{w:World}
section
set_option maxRecDepth 1000000
def Nq:List Nat:=[0,8,8,8,0,2,0,0,0,0,0,0,0,0,0,2,0,2,2,0,2,0,0,0,1,2,3,4,5,6,7,7,7,7,7,7,6,7,6,7,7,8,9,9,0,8,8,2,0,1,0,9,9,9,9,9,9,9,9,9,0,2,0,0,2,0,3,0,3,3,0,2,2,2,5,6,7,6,7,7,7,6,7,2,6,1,1,0,2,0,2,6,6,2,6,1,0,0,6,0,0,0,0,5,6,6,5,0,1,2,0,0,2,0,0,0,5,0,0,2,4,3,0,0,2,2,4,0,0,5,1,0,1,0,3,0,0,3,1,0,3,0,0,1,1,0,0,0,3,2,0,2,2,0,0,0,2,2,0,2,0,0,0,0,0,0,2,2,2,2,0,0,0,0]
def F6(s:Nat):Nat:=Nq.getD s 0
def I7(A b:Nat):Nat->List Nat->Bool
 | u,[]=>match FM AQ u A with|some q=>decide (F6 q+1<b)|none=>false
 | s,X::l=>s != 0&&(List.range 174).all fun p=>(AQ.getD p []).all fun x=>x.2 != s||(x.1==X&&I7 A b p l)
def VM:(AQ.all fun l=>l.all fun x=>decide (0<x.2/\x.2<174))=true:=by decide +kernel
def MZ(s:Nat)(x:Nat×Nat):Bool:=if x.1=104 then x.2==1&&(s != 0&&(List.range 174).all fun p=>(AQ.getD p []).all fun y=>y.2 != s||p==0) else decide (x.1<104)&&(s != 0&&I7 (pz.Bo x.1).1 ((pz.right x.1).length+F6 s) s (pz.right x.1).reverse)
def YJ:((List.range 174).all fun s=>(Bs.getD s []).all (MZ s))=true:=by decide +kernel
def OK{p:Nat}{x:It}(h:x∈AQ.getD p []):0<x.2/\x.2<174/\p<174:=by
 have l:p<174:=by
  rcases Nat.lt_or_ge p 174 with i|i
  ·exact i
  ·rw[dG,nG (by exact i)]at h
   cases h
 rw[dG,eG (by exact l)]at h;have o:=List.all_eq_true.1 (List.all_eq_true.1 VM _ (List.getElem_mem _)) x h;have j:=of_decide_eq_true o;exact⟨j.1,j.2,l⟩
def QS{x:Nat×Nat}(h:x∈Bs.getD s []):MZ s x=true:=by
 have j:s<174:=by
  rcases Nat.lt_or_ge s 174 with i|i
  ·exact i
  ·rw[dG,nG (by exact i)]at h
   cases h
 exact List.all_eq_true.1 (List.all_eq_true.1 YJ s (List.mem_range.2 j)) x h
def Qb(s t:Nat):(AZ pz AQ Bs s t).1=0\/((AZ pz AQ Bs s t).1=1/\0<t/\(t,(AZ pz AQ Bs s t).2)∈AQ.getD s []) \/
  ((AZ pz AQ Bs s t).1=3/\t=0/\s≠0/\∀p X,(X,s)∈AQ.getD p []->p=0) \/
  ((AZ pz AQ Bs s t).1=2/\(AZ pz AQ Bs s t).2<104/\s≠0/\I7 (pz.Bo (AZ pz AQ Bs s t).2).1 ((pz.right (AZ pz AQ Bs s t).2).length+F6 s) s (pz.right (AZ pz AQ Bs s t).2).reverse=true):=by
 unfold AZ;cases R:pz.Iv (AQ.getD s []) (Bs.getD s []) t with
 | nil=>exact .inl rfl
 | cons a l=>
  have ha:a∈pz.Iv (AQ.getD s []) (Bs.getD s []) t:=by rw[R];exact List.mem_cons_self
  unfold Gz.Iv at ha;simp only[List.headD_cons];rcases mA.1 ha with ha|ha
  ·rcases mA.1 ha with ha|ha
   ·obtain⟨x,o,rfl⟩:=List.mem_map.1 ha
    split at o
    ·rename_i h0
     obtain⟨C,j⟩:=List.mem_filter.1 o;obtain rfl:x.1=t:=by simpa using j
     exact .inr (.inl ⟨rfl,h0,C⟩)
    ·cases o
   ·obtain⟨x,o,rfl⟩:=List.mem_map.1 ha
    obtain⟨C,j⟩:=List.mem_filter.1 o;have i:=QS C;rw[Bool.and_eq_true,beq_iff_eq]at j;unfold MZ at i;rw[if_pos (show x.1=104 from j.1)]at i;simp only[Bool.and_eq_true,beq_iff_eq,bne_iff_ne,List.all_eq_true,Bool.or_eq_true]at i;refine .inr (.inr (.inl ⟨rfl,?_,i.2.1,fun p X P=>?_⟩))
    ·have J:=j.2
     rw[i.1]at J;exact Nat.testBit_one_eq_true_iff_self_eq_zero.1 J
    ·rcases i.2.2 p (List.mem_range.2 (OK P).2.2) _ P with I|I
     ·exact absurd rfl I
     ·exact I
  ·obtain⟨x,o,rfl⟩:=List.mem_map.1 ha
   obtain⟨C,j⟩:=List.mem_filter.1 o;have i:=QS C;rw[Bool.and_eq_true,bne_iff_ne]at j;unfold MZ at i;rw[if_neg (show ¬x.1=104 from j.1)]at i;simp only[Bool.and_eq_true,bne_iff_ne,decide_eq_true_eq]at i;exact .inr (.inr (.inr ⟨rfl,i.1,i.2.1,i.2.2⟩))
theorem ZI{u A q:Nat}(h:FM AQ u A=some q):(A,q)∈AQ.getD u []:=by
 unfold FM at h;cases i:(AQ.getD u []).find? (fun x=>x.1==A) with
 | none=>unfold Dx at h;rw[i]at h;cases h
 | some x=>
  unfold Dx at h;rw[i]at h;have j:=List.find?_some i;have l:=List.mem_of_find?_eq_some i;obtain⟨y,z⟩:=x;simp only at h;split at h
  ·simp only[beq_iff_eq,Int.toNat_natCast,Option.some.injEq]at j h
   subst j h;exact l
  ·cases h
def Lj:List Nat->List Nat->Prop
 | [],i=>i=[0]
 | X::j,i=>∃q u r,i=q::u::r/\(X,q)∈AQ.getD u []/\Lj j (u::r)
theorem TN:∀{xs st:List Nat},Lj xs st->st.length=xs.length+1/\∀s∈st,s<174
 | [],st,h=>by cases (show st=[0] from h);exact⟨rfl,by decide⟩
 | X::xs,st,h=>by
  obtain⟨q,u,r,rfl,j,l⟩:=h;obtain⟨o,p⟩:=TN l;refine⟨by rw[List.length_cons,o];rfl,fun s i=>?_⟩;rcases List.mem_cons.1 i with rfl|i
  ·exact(OK j).2.1
  ·exact p s i
theorem Ut{A b:Nat}:∀{l xs st:List Nat} {s:Nat},Lj xs (s::st)->I7 A b s l=true ->
  l.length<=xs.length/\xs.take l.length=l/\∃u r q,(s::st).drop l.length=u::r/\Lj (xs.drop l.length) (u::r)/\FM AQ u A=some q/\F6 q+1<b
 | [],xs,st,s,h,i=>by
  refine⟨AX _,rfl,s,st,?_⟩;unfold I7 at i;split at i
  ·rename_i q P
   exact⟨q,rfl,h,P,of_decide_eq_true i⟩
  ·cases i
 | X::l,xs,st,s,h,i=>by
  unfold I7 at i;simp only[Bool.and_eq_true,bne_iff_ne,List.all_eq_true,Bool.or_eq_true,beq_iff_eq]at i;cases xs with
  | nil=>exact absurd (List.cons.inj (show s::st=[0] from h)).1 i.1
  | cons Y xs=>
   obtain⟨q,u,r,e,o,p⟩:=h;cases e
   rcases i.2 u (List.mem_range.2 (OK o).2.2) _ o with j|⟨j,t⟩
   ·exact absurd rfl j
   ·obtain⟨C,I,J⟩:=Ut p t
    refine⟨Nat.succ_le_succ C,?_,J⟩;rw[List.length_cons,List.take_succ_cons,I];exact congrArg (·::l) j
end
theorem ZZ(l:List Nat):∀(j:List Nd) (i:Nat),(GH j l)[i]?=(j[i]?).map fun x=>if i∈l then{x with below:=true} else x:=by
 induction l with
 | nil=>intro j i;simp[GH]
 | cons k l p=>
  intro j i;rw[show GH j (k::l)=GH (j.modify k fun x=>{x with below:=true}) l from rfl,p,List.getElem?_modify];cases j[i]? with
  | none=>rfl
  | some x=>
   by_cases h:k=i
   ·subst h
    simp
   ·have o:¬i=k:=fun e=>h e.symm
    simp[h,o]
structure Ds(c:Ca)(N:Nat):Prop where
 path:∃xs,Lj xs c.st/\xs.length=c.ns.length
 free:∀k∈c.ns,∃x,c.tr[k]?=some x/\x.below=false
 nd:c.ns.Nodup
 size:c.tr.length+c.st.length+F6 (c.st.headD 0)<=11*N+10
variable{c:Ca}{N:Nat}
def Ds.start:Ds ⟨[0],[],[]⟩ 0:=⟨⟨[],rfl,rfl⟩,fun k i=>(by cases i),List.nodup_nil,by decide +kernel⟩
def Ds.mono{M:Nat}(h:Ds c N)(i:N<=M):Ds c M:=⟨h.path,h.free,h.nd,by have:=h.size;omega⟩
theorem Ds.len(h:Ds c N):c.st.length=c.ns.length+1/\(∀s∈c.st,s<AQ.length)/\∃s st,c.st=s::st:=by
 obtain⟨t,l,p⟩:=h.path;obtain⟨i,j⟩:=TN l;refine⟨by omega,j,?_⟩;cases o:c.st with
 | nil=>rw[o]at i;cases i
 | cons s st=>exact⟨s,st,rfl⟩
def Ds.add{M:Nat}(h:Ds c N){m q u X:Nat}{r xs:List Nat}{n:Nd}(T:Lj xs (u::r))(j:xs.length=c.ns.length-m)(U:(X,q)∈AQ.getD u [])(P:n.below=false)
  (hs:c.tr.length+1+(r.length+2)+F6 q<=11*M+10):Ds ⟨q::u::r,c.tr.length::c.ns.drop m,GH c.tr (c.ns.take m).reverse++[n]⟩ M:=by
 have p:(GH c.tr (c.ns.take m).reverse).length=c.tr.length:=by
  have J:∀(l:List Nat) (t:List Nd),(GH t l).length=t.length:=by
   intro l;induction l with
   | nil=>exact fun _=>rfl
   | cons k l ih=>exact fun t=>(ih _).trans (List.length_modify ..)
  exact J _ _
 have I:∀k∈c.ns,k<c.tr.length:=fun k i=>by obtain⟨x,j,-⟩:=h.free k i;exact(sG.1 j).1
 refine⟨⟨X::xs,⟨q,u,r,rfl,U,T⟩,by simp only[List.length_cons,List.length_drop];omega⟩,fun k i=>?_,?_,?_⟩
 ·rcases List.mem_cons.1 i with rfl|i
  ·exact⟨n,by rw[<-p];exact List.getElem?_concat_length,P⟩
  ·obtain⟨x,j,R⟩:=h.free k (List.mem_of_mem_drop i)
   have o:k ∉ (c.ns.take m).reverse:=fun o=>by have C:=h.nd;rw[<-List.take_append_drop m c.ns]at C;exact(List.nodup_append.1 C).2.2 k (List.mem_reverse.1 o) k i rfl
   refine⟨x,?_,R⟩;rw[gL (by rw[p];exact I k (List.mem_of_mem_drop i)),ZZ,j,Option.map_some,if_neg o]
 ·exact List.nodup_cons.2 ⟨fun i=>Nat.lt_irrefl _ (I _ (List.mem_of_mem_drop i)),(List.drop_sublist m c.ns).nodup h.nd⟩
 ·simp only[B8,List.length_cons,List.length_nil,p,List.headD_cons]at hs ⊢
  omega
def Ds.red(h:Ds c N){k:Nat}{st:List Nat}(C:c.st=s::st)(hk:k<104)(h0:s≠0)(J:I7 (pz.Bo k).1 ((pz.right k).length+F6 s) s (pz.right k).reverse=true) :
  (pz.right k).length<=c.ns.length/\0<c.ns.length/\L6 c.tr (c.ns.take (pz.right k).length).reverse=true/\∃u r q,(s::st).drop (pz.right k).length=u::r/\FM AQ u (pz.Bo k).1=some q/\Ds (c.red pz k u q r) N/\(q::u::r).length+F6 q<(s::st).length+F6 s:=by
 obtain⟨xs,j,t⟩:=h.path;rw[C]at j;obtain⟨I,-,u,r,q,i,l,o,h6⟩:=Ut j J;rw[List.length_reverse]at I i l;have T:=congrArg List.length i;simp only[List.length_drop,List.length_cons]at T;have p:=h.size;rw[C]at p;simp only[List.length_cons,List.headD_cons]at p;refine⟨by omega,?_,?_,u,r,q,i,o,h.add (n:=⟨(pz.Bo k).1,-1,k,(c.ns.take (pz.right k).length).reverse,false,false⟩) l (by rw[List.length_drop,t]) (ZI o) rfl (by omega),by simp only[List.length_cons];omega⟩
 ·cases xs with
  | nil=>exact absurd (List.cons.inj (show s::st=[0] from j)).1 h0
  | cons a b=>rw[<-t];exact Nat.succ_pos _
 ·unfold L6
  rw[Bool.and_eq_true,decide_eq_true_eq,List.all_eq_true];refine⟨(List.reverse_perm _).nodup_iff.2 ((List.take_sublist _ _).nodup h.nd),fun a0 R=>?_⟩;obtain⟨x,U,P⟩:=h.free a0 (List.mem_of_mem_take (List.mem_reverse.1 R));rw[U,Option.map_some,P];rfl
theorem Ds.run{t:Nat}(hN:N<=40):∀{f:Nat} {c:Ca},Ds c N->c.st.length+F6 (c.st.headD 0)<f ->
  ∃s r j,Fh pz AQ Bs t f c.st=some (AZ pz AQ Bs s t)/\Hp pz AQ Bs t f c=some (AZ pz AQ Bs s t,j)/\Ds j N/\j.st=s::r/\(AZ pz AQ Bs s t).1≠2:=by
 intro f;induction f with
 | zero=>intro c _ h;exact absurd h (Nat.not_lt_zero _)
 | succ f ih=>
  intro c h P;have J:=h.size;obtain⟨-,-,s,st,i⟩:=h.len;by_cases l:(AZ pz AQ Bs s t).1=2
  ·obtain⟨p,h0,hc⟩:(AZ pz AQ Bs s t).2<104/\s≠0/\I7 (pz.Bo (AZ pz AQ Bs s t).2).1 ((pz.right (AZ pz AQ Bs s t).2).length+F6 s) s (pz.right (AZ pz AQ Bs s t).2).reverse=true:=by
    rcases Qb s t with o|⟨o,-⟩|⟨o,-⟩|⟨-,o⟩
    ·omega
    ·omega
    ·omega
    ·exact o
   obtain⟨R,T,U,u,r,q,C,I,a6,a7⟩:=h.red i p h0 hc;rw[i]at P J;simp only[List.length_cons,List.headD_cons]at P a7 J;obtain⟨s',r',j,b1,b2,b3⟩:=ih a6 (by show (q::u::r).length+F6 q<f;simp only[List.length_cons];omega);refine⟨s',r',j,?_,?_,b3⟩
   ·unfold Fh
    rw[i];simp only;rw[if_pos l,if_pos ⟨p,by simp only[List.length_cons];omega⟩,C];simp only;rw[I];exact b1
   ·unfold Hp
    rw[i];simp only;rw[if_pos l,if_pos ⟨p,by simp only[List.length_cons];omega,R,T,by omega,U⟩,C];simp only;rw[I];exact b2
  ·refine⟨s,st,c,?_,?_,h,i,l⟩
   ·unfold Fh
    rw[i];simp only;rw[if_neg l]
   ·unfold Hp
    rw[i];simp only;rw[if_neg l]
theorem Ds.push(h:Ds c N){t n:Nat}{r:List Nat}(o:c.st=s::r)(h0:0<t)(ha:(AZ pz AQ Bs s t).1≠0)(p:(AZ pz AQ Bs s t).1≠2) :
  Ds (c.push t n (AZ pz AQ Bs s t).2) (N+1):=by
 rcases Qb s t with i|⟨i,-,J⟩|⟨-,i,-⟩|⟨i,-⟩
 ·exact absurd i ha
 ·have P:∀q,F6 q<=9:=fun q=>by
   unfold F6;rw[dG];cases R:Nq[q]? with
   | none=>exact AX _
   | some x=>exact of_decide_eq_true (List.all_eq_true.1 (show (Nq.all fun r=>decide (r<=9))=true by decide) x (mG R))
  have T:=P (AZ pz AQ Bs s t).2;obtain⟨U,l,I⟩:=h.path;have j:=h.size;rw[o]at l j;simp only[List.length_cons,List.headD_cons]at j;have C:=h.add (M:=N+1) (m:=0) (n:=⟨t,n,-1,[],true,false⟩) l I J rfl (by omega);unfold Ca.push;rw[o];exact C
 ·omega
 ·exact absurd i p
def Gj(t w:World)(i:Nat)(N:Nat)(c:Ca):Prop:=∃p l T steps o j,Cw t w i p l c.st c.ns T false steps o j/\T.map (·.1)=c.tr/\Ds c N/\steps<=1002*N
def Gj.later{j y:World}{i:Nat}(h:Gj j w i N c)(p:Below w.heap.size w y):Gj j y i N c:=by obtain⟨J,C,T,steps,I,t,l,o⟩:=h;exact⟨J,C,T,steps,I,t,l.later p,o⟩
def Gj.base{i:World}{j:Nat}(h:Gj i w j N c):Below i.heap.size i w:=by obtain⟨I,t,T,steps,C,p,l,o⟩:=h;exact l.base
def Gj.can{I:World}{j:Nat}(h:Gj I w j N c)(p:N<=40):EZ w (.pointer (some ⟨j,0,none⟩)) (EV c):=by
 obtain⟨tb,rb,T,steps,sv,nv,o,P,i,R⟩:=h;obtain⟨l1,C,-⟩:=i.len;refine Tf o (by omega) C fun t ht=>?_
 have U:=i.size;obtain⟨s,r,J,l,-⟩:=Ds.run (t:=t) p (f:=1000) i (by omega);exact⟨_,l⟩
def Gj.push{R:World}{j:Nat}(h:Gj R w j N c)(hN:N<40)(x:Int)(l:Nat):Calls Tryz.prog 35 #[.pointer (some ⟨j,0,none⟩),.int .i64 x,.int .i64 l] w fun e w'=>(∃k:Int,e=.returned (.int .i64 k))/\∃i,Gj R w' j (N+1) i:=by
 obtain⟨I,rb,a6,steps,sv,nv,o,T,C,h3⟩:=h;have ab:pz.nt=38:=rfl;obtain⟨l1,l2,-⟩:=C.len;have hs:=C.size;have a0:w.cell? ⟨I,5,none⟩=some (.int .i64 (pz.nt:Nat))/\I<w.heap.size:=by obtain⟨AT,nT,cT,AN,nN,cN,AR,nR,cR,gs,Ar,cr,nn,Aa,na,ca,Ag,ng,cg,U,-,-,-⟩:=(o.GL.later o.base).use;have t5:=Ah.cell U 5;simp at t5;exact⟨t5,U.lt⟩
 have a3:(1<=x->x<=pz.nt->Calls Tryz.prog 43 #[.pointer (some ⟨j,0,none⟩),.int .i64 x] w fun e w'=>e=.returned (.bool false)/\Below w.heap.size w w')->Calls Tryz.prog 35 #[.pointer (some ⟨j,0,none⟩),.int .i64 x,.int .i64 l] w fun e w'=>(∃k:Int,e=.returned (.int .i64 k))/\∃i,Gj R w' j (N+1) i:=fun hc=>(iX (l:=l) o.box a0.1 a0.2 hc).mono fun e w' ⟨k,_,P,hb⟩=>⟨⟨k,P⟩,c,I,rb,a6,steps,sv,nv,o.later hb,T,C.mono (by omega),by omega⟩
 by_cases hx:0<x/\x<=38
 ·obtain⟨t,rfl⟩:=Int.eq_ofNat_of_zero_le (show 0<=x by omega)
  obtain⟨s,r,i,a1,a2,J,a4,a5⟩:=Ds.run (t:=t) (by omega) (f:=1000) C (by omega);have p:=Pv o (by omega) t (fun _ _=>a1) l2;by_cases ha:(AZ pz AQ Bs s t).1=0
  ·rw[decide_eq_false (fun h=>h.2.2 ha)]at p
   exact a3 fun _ _=>p
  ·rw[decide_eq_true ⟨by omega,by omega,ha⟩]at p
   have ad:=J.size;have aa:=J.len.1;refine(kK (l:=l) o T l1 (by omega) (by omega) p a2 l2 (AF _) (by omega) ⟨by show i.st.length<=9000;omega,by show i.ns.length<=9000;omega,by show i.tr.length<=90000;omega⟩).mono fun e w' ⟨P,T',a8,a9,a7,b1,b2,b3,_⟩=>?_
   exact⟨⟨0,P⟩,_,I,rb,T',a8,a9,a7,b1,b2,J.push a4 (by omega) ha a5,by omega⟩
 ·exact a3 fun h5 h6=>absurd ⟨by omega,by omega⟩ hx
end Go.Proofs.YtlogpnoioimhjaaGreatDoor
