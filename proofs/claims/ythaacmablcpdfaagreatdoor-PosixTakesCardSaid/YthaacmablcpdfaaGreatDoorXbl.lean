/- The engine at the. -/
import Derived.Test.YthaacmablcpdfaaGreatDoorXbk
set_option linter.all false
set_option maxRecDepth 100000
set_option maxHeartbeats 0
namespace Go.Proofs.YthaacmablcpdfaaGreatDoor
open Go.RowKit
variable{k s:Nat}{r:List Nat}
section
set_option maxRecDepth 1000000
def Of:List Nat:=[0,8,8,8,0,2,0,0,0,0,0,0,0,0,0,2,0,2,2,0,2,0,0,0,1,2,3,4,5,6,7,7,7,7,7,7,6,7,6,7,7,8,9,9,0,8,8,2,0,1,0,9,9,9,9,9,9,9,9,9,0,2,0,0,2,0,3,0,3,3,0,2,2,2,5,6,7,6,7,7,7,6,7,2,6,1,1,0,2,0,2,6,6,2,6,1,0,0,6,0,0,0,0,5,6,6,5,0,1,2,0,0,2,0,0,0,5,0,0,2,4,3,0,0,2,2,4,0,0,5,1,0,1,0,3,0,0,3,1,0,3,0,0,1,1,0,0,0,3,2,0,2,2,0,0,0,2,2,0,2,0,0,0,0,0,0,2,2,2,2,0,0,0,0]
def FZ(s:Nat):Nat:=Of.getD s 0
def Jc(A b:Nat):Nat->List Nat->Bool
 | u,[]=>match Fw AS u A with|some q=>decide (FZ q+1<b)|none=>false
 | s,X::l=>s != 0&&(List.range 174).all fun p=>(AS.getD p []).all fun x=>x.2 != s||(x.1==X&&Jc A b p l)
def W3:(AS.all fun l=>l.all fun x=>decide (0<x.2/\x.2<174))=true:=by decide +kernel
def MZ(s:Nat)(x:Nat×Nat):Bool:=if x.1=104 then x.2==1&&(s != 0&&(List.range 174).all fun p=>(AS.getD p []).all fun y=>y.2 != s||p==0) else decide (x.1<104)&&(s != 0&&Jc (pz.Bb x.1).1 ((pz.right x.1).length+FZ s) s (pz.right x.1).reverse)
def XT:((List.range 174).all fun s=>(Bm.getD s []).all (MZ s))=true:=by decide +kernel
def M9{p:Nat}{x:It}(h:x∈AS.getD p []):0<x.2/\x.2<174/\p<174:=by
 have l:p<174:=by
  rcases Nat.lt_or_ge p 174 with i|i
  ·exact i
  ·rw[dG,nG (by exact i)]at h
   cases h
 rw[dG,eG (by exact l)]at h;have o:=List.all_eq_true.1 (List.all_eq_true.1 W3 _ (List.getElem_mem _)) x h;have j:=of_decide_eq_true o;exact⟨j.1,j.2,l⟩
def Pz{x:Nat×Nat}(h:x∈Bm.getD s []):MZ s x=true:=by
 have j:s<174:=by
  rcases Nat.lt_or_ge s 174 with i|i
  ·exact i
  ·rw[dG,nG (by exact i)]at h
   cases h
 exact List.all_eq_true.1 (List.all_eq_true.1 XT s (List.mem_range.2 j)) x h
def Nj(s t:Nat):(A0 pz AS Bm s t).1=0\/((A0 pz AS Bm s t).1=1/\0<t/\(t,(A0 pz AS Bm s t).2)∈AS.getD s []) \/
  ((A0 pz AS Bm s t).1=3/\t=0/\s≠0/\∀p X,(X,s)∈AS.getD p []->p=0) \/
  ((A0 pz AS Bm s t).1=2/\(A0 pz AS Bm s t).2<104/\s≠0/\Jc (pz.Bb (A0 pz AS Bm s t).2).1 ((pz.right (A0 pz AS Bm s t).2).length+FZ s) s (pz.right (A0 pz AS Bm s t).2).reverse=true):=by
 unfold A0;cases R:pz.Hu (AS.getD s []) (Bm.getD s []) t with
 | nil=>exact .inl rfl
 | cons a l=>
  have ha:a∈pz.Hu (AS.getD s []) (Bm.getD s []) t:=by rw[R];exact List.mem_cons_self
  unfold Gz.Hu at ha;simp only[List.headD_cons];rcases mA.1 ha with ha|ha
  ·rcases mA.1 ha with ha|ha
   ·obtain⟨x,o,rfl⟩:=List.mem_map.1 ha
    split at o
    ·rename_i h0
     obtain⟨C,j⟩:=List.mem_filter.1 o;obtain rfl:x.1=t:=by simpa using j
     exact .inr (.inl ⟨rfl,h0,C⟩)
    ·cases o
   ·obtain⟨x,o,rfl⟩:=List.mem_map.1 ha
    obtain⟨C,j⟩:=List.mem_filter.1 o;have i:=Pz C;rw[Bool.and_eq_true,beq_iff_eq]at j;unfold MZ at i;rw[if_pos (show x.1=104 from j.1)]at i;simp only[Bool.and_eq_true,beq_iff_eq,bne_iff_ne,List.all_eq_true,Bool.or_eq_true]at i;refine .inr (.inr (.inl ⟨rfl,?_,i.2.1,fun p X P=>?_⟩))
    ·have J:=j.2
     rw[i.1]at J;exact Nat.testBit_one_eq_true_iff_self_eq_zero.1 J
    ·rcases i.2.2 p (List.mem_range.2 (M9 P).2.2) _ P with I|I
     ·exact absurd rfl I
     ·exact I
  ·obtain⟨x,o,rfl⟩:=List.mem_map.1 ha
   obtain⟨C,j⟩:=List.mem_filter.1 o;have i:=Pz C;rw[Bool.and_eq_true,bne_iff_ne]at j;unfold MZ at i;rw[if_neg (show ¬x.1=104 from j.1)]at i;simp only[Bool.and_eq_true,bne_iff_ne,decide_eq_true_eq]at i;exact .inr (.inr (.inr ⟨rfl,i.1,i.2.1,i.2.2⟩))
theorem cE{u A q:Nat}(h:Fw AS u A=some q):(A,q)∈AS.getD u []:=by
 unfold Fw at h;cases i:(AS.getD u []).find? (fun x=>x.1==A) with
 | none=>unfold DF at h;rw[i]at h;cases h
 | some x=>
  unfold DF at h;rw[i]at h;have j:=List.find?_some i;have l:=List.mem_of_find?_eq_some i;obtain⟨y,z⟩:=x;simp only at h;split at h
  ·simp only[beq_iff_eq,Int.toNat_natCast,Option.some.injEq]at j h
   subst j h;exact l
  ·cases h
def KI:List Nat->List Nat->Prop
 | [],i=>i=[0]
 | X::j,i=>∃q u r,i=q::u::r/\(X,q)∈AS.getD u []/\KI j (u::r)
theorem K0:∀{xs st:List Nat},KI xs st->st.length=xs.length+1/\∀s∈st,s<174
 | [],st,h=>by cases (show st=[0] from h);exact⟨rfl,by decide⟩
 | X::xs,st,h=>by
  obtain⟨q,u,r,rfl,j,l⟩:=h;obtain⟨o,p⟩:=K0 l;refine⟨by rw[List.length_cons,o];rfl,fun s i=>?_⟩;rcases List.mem_cons.1 i with rfl|i
  ·exact(M9 j).2.1
  ·exact p s i
theorem T8{A b:Nat}:∀{l xs st:List Nat} {s:Nat},KI xs (s::st)->Jc A b s l=true ->
  l.length<=xs.length/\xs.take l.length=l/\∃u r q,(s::st).drop l.length=u::r/\KI (xs.drop l.length) (u::r)/\Fw AS u A=some q/\FZ q+1<b
 | [],xs,st,s,h,i=>by
  refine⟨AZ _,rfl,s,st,?_⟩;unfold Jc at i;split at i
  ·rename_i q P
   exact⟨q,rfl,h,P,of_decide_eq_true i⟩
  ·cases i
 | X::l,xs,st,s,h,i=>by
  unfold Jc at i;simp only[Bool.and_eq_true,bne_iff_ne,List.all_eq_true,Bool.or_eq_true,beq_iff_eq]at i;cases xs with
  | nil=>exact absurd (List.cons.inj (show s::st=[0] from h)).1 i.1
  | cons Y xs=>
   obtain⟨q,u,r,e,o,p⟩:=h;cases e
   rcases i.2 u (List.mem_range.2 (M9 o).2.2) _ o with j|⟨j,t⟩
   ·exact absurd rfl j
   ·obtain⟨C,I,J⟩:=T8 p t
    refine⟨Nat.succ_le_succ C,?_,J⟩;rw[List.length_cons,List.take_succ_cons,I];exact congrArg (·::l) j
end
def Ja(tr:List Nd)(k:Nat):Nat:=(tr[k]?.map Nd.sym).getD 0
def Ext(tr j:List Nd):Prop:=∀(k:Nat) x,tr[k]?=some x->∃i,j[k]?=some i/\i.sym=x.sym/\i.DI=x.DI/\i.kids=x.kids/\i.Bb=x.Bb
theorem Pj{tr j:List Nd}(h:Ext tr j):∀{f:Nat} {l xs:List Nat},BV tr f l=some xs->BV j f l=some xs
 | f,[],xs,i=>by unfold BV at i ⊢;exact i
 | 0,k::l,xs,i=>by unfold BV at i;cases i
 | f+1,k::l,xs,i=>by obtain⟨I,x,r,e,C,t,rfl⟩:=JR i;obtain rfl:=Nat.succ.inj e;obtain⟨J,o,-,-,p,-⟩:=h k x C;unfold BV;rw[o];simp only;rw[p,Pj h t];rfl
theorem Ro{tr l:List Nd}(h:Ext tr l){xs:List Nat}(i:∀k∈xs,k<tr.length):D5 l xs=D5 tr xs:=by
 unfold D5;induction xs with
 | nil=>rfl
 | cons k xs I=>have h0:=eG (i k List.mem_cons_self);obtain⟨J,o,p,t,-⟩:=h k _ h0;rw[List.filterMap_cons,List.filterMap_cons,o,h0,I fun j C=>i j (List.mem_cons_of_mem _ C)];simp only[Option.bind_some,p,t]
def Xa{tr o:List Nd}(h:Ext tr o){x j:Nd}(l:I9 tr x)(e:j.sym=x.sym/\j.DI=x.DI/\j.kids=x.kids/\j.Bb=x.Bb):I9 o j:=by
 obtain⟨p,t,C,I⟩:=e;unfold I9 at l ⊢;rw[p,t,C,I];rcases l with l|⟨h0,k,r,J,P,R,T,U⟩
 ·exact .inl l
 ·refine .inr ⟨h0,k,r,J,P,R,T,fun a0 s i hj hi=>?_⟩
  obtain⟨y,hy,hs⟩:=U a0 s i hj hi;obtain⟨y',h6,h7,-⟩:=h i y hy;exact⟨y',h6,h7.trans hs⟩
theorem jM(ks:List Nat):∀(tr:List Nd) (i:Nat),(Es tr ks)[i]?=(tr[i]?).map fun x=>if i∈ks then{x with below:=true} else x:=by
 induction ks with
 | nil=>intro tr i;simp[Es]
 | cons k ks l=>
  intro tr i;rw[show Es tr (k::ks)=Es (tr.modify k fun x=>{x with below:=true}) ks from rfl,l,List.getElem?_modify];cases tr[i]? with
  | none=>rfl
  | some x=>
   by_cases h:k=i
   ·subst h
    simp
   ·have j:¬i=k:=fun e=>h e.symm
    simp[h,j]
theorem OG{tr:List Nd}{b y:List Nat}(l:BV tr y.length b=some y):∀{x a:List Nat},BV tr x.length a=some x->BV tr (x++y).length (a++b)=some (x++y)
 | [],a,i=>by
  cases a with
  | nil=>exact l
  | cons k a=>unfold BV at i;cases i
 | k::x,a,i=>by
  cases a with
  | nil=>unfold BV at i;cases i
  | cons j a=>
   obtain⟨I,J,r,e,p,t,o⟩:=JR i;cases o
   obtain rfl:=Nat.succ.inj e;have C:=OG l t;rw[List.cons_append,List.length_cons,List.cons_append];unfold BV;rw[p];simp only;rw[<-List.append_assoc,C];rfl
theorem jT{tr:List Nd}:∀{f:Nat} {a b xs:List Nat},BV tr f (a++b)=some xs->∃x y,xs=x++y/\BV tr x.length a=some x/\BV tr y.length b=some y:=by
 intro f;induction f with
 | zero=>
  intro a b xs h;cases a with
  | nil=>
   cases b with
   | nil=>unfold BV at h;cases h;exact⟨[],[],rfl,by unfold BV;rfl,by unfold BV;rfl⟩
   | cons k b=>rw[List.nil_append]at h;unfold BV at h;cases h
  | cons k a=>rw[List.cons_append]at h;unfold BV at h;cases h
 | succ f p=>
  intro a b xs h;cases a with
  | nil=>
   refine⟨[],xs,rfl,by unfold BV;rfl,?_⟩;cases b with
   | nil=>rw[List.nil_append]at h;unfold BV at h;cases h;unfold BV;rfl
   | cons k b=>obtain⟨C,t,r,e,j,i,rfl⟩:=JR h;obtain rfl:=Nat.succ.inj e;obtain⟨x,y,rfl,l,o⟩:=p i;rw[List.length_cons];unfold BV;rw[j];simp only;rw[OG o l];rfl
  | cons k a=>obtain⟨C,t,r,e,j,i,rfl⟩:=JR h;obtain rfl:=Nat.succ.inj e;have i:BV tr f ((t.kids++a)++b)=some r:=(List.append_assoc ..).symm▸i;obtain⟨x,y,rfl,l,o⟩:=p i;refine⟨k::x,y,rfl,?_,o⟩;rw[List.length_cons];unfold BV;rw[j];simp only;rw[l];rfl
structure CP(c:Cf)(l:List Nat):Prop where
 path:KI (c.ns.map (Ja c.tr)) c.st
 Jt:∃xs,BV c.tr xs.length c.ns.reverse=some xs/\xs.length<=c.tr.length/\D5 c.tr xs=l
 free:∀k∈c.ns,∃x,c.tr[k]?=some x/\x.below=false
 nd:c.ns.Nodup
 Cx:∀x∈c.tr,I9 c.tr x/\x.kids.length<=8
 size:c.tr.length+c.st.length+FZ (c.st.headD 0)<=11*l.length+10
variable{l:List Nat}
def CP.lt{c:Cf}(h:CP c l)(i:k∈c.ns):k<c.tr.length:=by obtain⟨x,j,-⟩:=h.free k i;exact(sG.1 j).1
def CP.start:CP ⟨[0],[],[]⟩ [] where
 path:=rfl
 Jt:=⟨[],by unfold BV;rfl,AG _,rfl⟩
 free:=fun k i=>by cases i
 nd:=List.nodup_nil
 Cx:=fun x j=>by cases j
 size:=by decide +kernel
def CP.add{c:Cf}(h:CP c l){m q u:Nat}{n:Nd}(hp:KI ((c.ns.map (Ja c.tr)).drop m) (u::r))(h8:m<=8)(hq:(n.sym,q)∈AS.getD u [])(j:n.kids=(c.ns.take m).reverse)(hb:n.below=false)(J:n.DI=true->m=0)(hn:Ext c.tr (Es c.tr (c.ns.take m).reverse++[n])->I9 (Es c.tr (c.ns.take m).reverse++[n]) n)
  (hs:c.tr.length+1+(r.length+2)+FZ q<=11*(l++if n.DI then[n.sym] else[]).length+10):CP ⟨q::u::r,c.tr.length::c.ns.drop m,Es c.tr (c.ns.take m).reverse++[n]⟩ (l++if n.DI then[n.sym] else[]):=by
 have T:(Es c.tr (c.ns.take m).reverse).length=c.tr.length:=by
  have p:∀(U:List Nat) (tr:List Nd),(Es tr U).length=tr.length:=by
   intro U;induction U with
   | nil=>exact fun _=>rfl
   | cons k U ih=>exact fun tr=>(ih _).trans (List.length_modify ..)
  exact p _ _
 have a0:∀i,i<c.tr.length->(Es c.tr (c.ns.take m).reverse++[n])[i]?=(c.tr[i]?).map fun x=>if i∈(c.ns.take m).reverse then{x with below:=true} else x:=fun i J=>by rw[gL (by omega),jM]
 have P:(Es c.tr (c.ns.take m).reverse++[n])[c.tr.length]?=some n:=by rw[<-T];exact List.getElem?_concat_length
 have C:Ext c.tr (Es c.tr (c.ns.take m).reverse++[n]):=fun k x t=>by refine⟨_,(a0 k (sG.1 t).1).trans (by rw[t];rfl),?_⟩;split<;>exact⟨rfl,rfl,rfl,rfl⟩
 have hn:=hn C;have a4:∀k,k<c.tr.length->Ja (Es c.tr (c.ns.take m).reverse++[n]) k=Ja c.tr k:=fun k j=>by obtain⟨x',p,o,-⟩:=C k _ (eG j);unfold Ja;rw[p,eG j];exact o
 have a3:∀k∈c.ns.drop m,k ∉ (c.ns.take m).reverse:=fun k j o=>by have I:=h.nd;rw[<-List.take_append_drop m c.ns]at I;exact(List.nodup_append.1 I).2.2 k (List.mem_reverse.1 o) k j rfl
 generalize Es c.tr (c.ns.take m).reverse=a2 at *;refine⟨?_,?_,?_,?_,?_,?_⟩
 ·refine⟨q,u,r,rfl,?_,?_⟩
  ·rw[show Ja (a2++[n]) c.tr.length=n.sym by unfold Ja;rw[P];rfl]
   exact hq
  ·rw[<-List.map_drop]at hp
   rw[List.map_congr_left fun k j=>a4 k (h.lt (List.mem_of_mem_drop j))];exact hp
 ·obtain⟨xs,hv,hl,hy⟩:=h.Jt
  rw[<-List.take_append_drop m c.ns,List.reverse_append]at hv;obtain⟨x,y,rfl,p,o⟩:=jT hv;have I:BV (a2++[n]) (c.tr.length::y).length [c.tr.length]=some (c.tr.length::y):=by rw[List.length_cons];unfold BV;rw[P];simp only;rw[j,List.append_nil,Pj C o];rfl
  refine⟨x++c.tr.length::y,?_,?_,?_⟩
  ·rw[List.reverse_cons]
   exact OG I (Pj C p)
  ·simp only[BO,List.length_cons,List.length_nil,T]at hl ⊢
   omega
  ·have t:=Ro C (Lm p)
   have hz:=Ro C (Lm o);unfold D5 at t hz hy ⊢;rw[List.filterMap_append]at hy ⊢;rw[List.filterMap_cons,P,t,hz,<-hy];cases a1:n.DI with
   | false=>simp[a1]
   | true=>
    rw[J a1]at o;have:y=[]:=by rw[List.take_zero,List.reverse_nil]at o;unfold BV at o;exact(Option.some.inj o).symm
    subst this;simp[a1]
 ·intro k j
  rcases List.mem_cons.1 j with rfl|j
  ·exact⟨n,P,hb⟩
  ·obtain⟨x,t,hf⟩:=h.free k (List.mem_of_mem_drop j)
   exact⟨x,(a0 k (h.lt (List.mem_of_mem_drop j))).trans (by rw[t,Option.map_some,if_neg (a3 k j)]),hf⟩
 ·exact List.nodup_cons.2 ⟨fun j=>Nat.lt_irrefl _ (h.lt (List.mem_of_mem_drop j)),(List.drop_sublist m c.ns).nodup h.nd⟩
 ·intro x t
  obtain⟨i,J,rfl⟩:=List.mem_iff_getElem.1 t;have R:=eG J;rcases Nat.lt_or_ge i c.tr.length with p|p
  ·rw[a0 i p,eG p,Option.map_some]at R
   obtain⟨o,I⟩:=h.Cx _ (List.getElem_mem p);rw[<-Option.some.inj R];split<;>exact⟨Xa C o ⟨rfl,rfl,rfl,rfl⟩,I⟩
  ·simp only[BO,List.length_cons,List.length_nil,T]at J
   obtain rfl:i=c.tr.length:=by omega
   rw[P]at R;rw[<-Option.some.inj R];refine⟨hn,?_⟩;rw[j,List.length_reverse,List.length_take];omega
 ·simp only[BO,List.length_cons,List.length_nil,T,List.headD_cons]at hs ⊢
  omega
def gJ(h:k<104):pz.R[k]?=some (pz.Bb k)/\(pz.right k).length<=8:=by
 have i:k<pz.R.length:=h;have j:pz.Bb k=pz.R[k]:=by unfold Gz.Bb;rw[if_neg (Nat.ne_of_lt i),dG,eG i];rfl
 refine⟨by rw[j];exact eG i,?_⟩;unfold Gz.right;rw[j];exact of_decide_eq_true (List.all_eq_true.1 (show (pz.R.all fun r=>decide (r.2.length<=8))=true by decide +kernel) _ (List.getElem_mem i))
def CP.red{c:Cf}(h:CP c l){st:List Nat}(hs:c.st=s::st)(hk:k<104)(h0:s≠0)(hc:Jc (pz.Bb k).1 ((pz.right k).length+FZ s) s (pz.right k).reverse=true) :
  (pz.right k).length<=c.ns.length/\0<c.ns.length/\LG c.tr (c.ns.take (pz.right k).length).reverse=true/\∃u r q,(s::st).drop (pz.right k).length=u::r/\Fw AS u (pz.Bb k).1=some q/\CP (c.red pz k u q r) l/\(q::u::r).length+FZ q<(s::st).length+FZ s:=by
 have t:=h.path;rw[hs]at t;obtain⟨o,J,u,r,q,P,R,T,h6⟩:=T8 t hc;rw[List.length_reverse]at o J P R;rw[lM]at o;obtain⟨hR,h8⟩:=gJ hk;have a3:=congrArg List.length P;simp only[List.length_drop,List.length_cons]at a3;refine⟨o,?_,?_,u,r,q,P,T,?_,?_⟩
 ·cases hn:c.ns with
  | nil=>rw[hn]at t;exact absurd (List.cons.inj (show s::st=[0] from t)).1 h0
  | cons a b=>exact Nat.succ_pos _
 ·unfold LG
  rw[Bool.and_eq_true,decide_eq_true_eq,List.all_eq_true];refine⟨(List.reverse_perm _).nodup_iff.2 ((List.take_sublist _ _).nodup h.nd),fun i p=>?_⟩;obtain⟨x,C,hf⟩:=h.free i (List.mem_of_mem_take (List.mem_reverse.1 p));rw[C,Option.map_some,hf];rfl
 ·have j:=CP.add h (q:=q) (n:=⟨(pz.Bb k).1,-1,k,(c.ns.take (pz.right k).length).reverse,false,false⟩) R h8 (cE T) rfl rfl (fun e=>by cases e) (fun hE=>?_) ?_
  ·rw[if_neg (by simp),List.append_nil]at j
   exact j
  ·refine .inr ⟨rfl,k,pz.Bb k,rfl,hR,rfl,?_,fun a4 s i U p=>?_⟩
   ·rw[List.length_reverse,List.length_take,Nat.min_eq_left o]
    rfl
   ·rw[<-List.map_take]at J
    have j:=congrArg List.reverse J;rw[List.reverse_reverse,<-List.map_reverse]at j;rw[show (pz.Bb k).2=pz.right k from rfl,<-j,pG,p]at U;have a2:=h.lt (List.mem_of_mem_take (List.mem_reverse.1 (mG p)));have C:=eG a2;obtain⟨x',a0,a1,-⟩:=hE i _ C;refine⟨x',a0,a1.trans ?_⟩;have I:=Option.some.inj U;unfold Ja at I;rw[C]at I;exact I
  ·have j:=h.size
   rw[hs]at j;simp only[List.length_cons,List.headD_cons]at j;rw[if_neg (by simp),List.append_nil];omega
 ·simp only[List.length_cons]
  omega
theorem CP.run{t:Nat}(hl:l.length<=40):∀{f:Nat} {c:Cf},CP c l->c.st.length+FZ (c.st.headD 0)<f ->
  ∃s r j,Gi pz AS Bm t f c.st=some (A0 pz AS Bm s t)/\Gl pz AS Bm t f c=some (A0 pz AS Bm s t,j)/\CP j l/\j.st=s::r/\(A0 pz AS Bm s t).1≠2:=by
 intro f;induction f with
 | zero=>intro c _ h;exact absurd h (Nat.not_lt_zero _)
 | succ f ih=>
  intro c h U;have T:=h.size;obtain⟨s,p,i⟩:∃s p,c.st=s::p:=by
   have R:=(K0 h.path).1;cases i:c.st with
   | nil=>rw[i]at R;cases R
   | cons s p=>exact⟨s,p,rfl⟩
  by_cases o:(A0 pz AS Bm s t).1=2
  ·obtain⟨I,h0,hc⟩:(A0 pz AS Bm s t).2<104/\s≠0/\Jc (pz.Bb (A0 pz AS Bm s t).2).1 ((pz.right (A0 pz AS Bm s t).2).length+FZ s) s (pz.right (A0 pz AS Bm s t).2).reverse=true:=by
    rcases Nj s t with C|⟨C,-⟩|⟨C,-⟩|⟨-,C⟩
    ·omega
    ·omega
    ·omega
    ·exact C
   obtain⟨a1,a2,a3,u,r,q,J,P,a6,a7⟩:=h.red i I h0 hc;rw[i]at U T;simp only[List.length_cons,List.headD_cons]at U a7 T;obtain⟨s',r',j,b1,b2,b3⟩:=ih a6 (by show (q::u::r).length+FZ q<f;simp only[List.length_cons];omega);refine⟨s',r',j,?_,?_,b3⟩
   ·unfold Gi
    rw[i];simp only;rw[if_pos o,if_pos ⟨I,by simp only[List.length_cons];omega⟩,J];simp only;rw[P];exact b1
   ·unfold Gl
    rw[i];simp only;rw[if_pos o,if_pos ⟨I,by simp only[List.length_cons];omega,a1,a2,by omega,a3⟩,J];simp only;rw[P];exact b2
  ·refine⟨s,p,c,?_,?_,h,i,o⟩
   ·unfold Gi
    rw[i];simp only;rw[if_neg o]
   ·unfold Gl
    rw[i];simp only;rw[if_neg o]
theorem CP.push{c:Cf}(h:CP c l){t n:Nat}(p:c.st=s::r)(h0:0<t)(R:t<=38)(ha:(A0 pz AS Bm s t).1≠0)(C:(A0 pz AS Bm s t).1≠2) :
  CP (c.push t n (A0 pz AS Bm s t).2) (l++[t])/\(A0 pz AS Bm s t).1=1:=by
 rcases Nj s t with i|⟨i,-,J⟩|⟨-,i,-⟩|⟨i,-⟩
 ·exact absurd i ha
 ·have P:∀q,FZ q<=9:=fun q=>by
   unfold FZ;rw[dG];cases T:Of[q]? with
   | none=>exact AZ _
   | some x=>exact of_decide_eq_true (List.all_eq_true.1 (show (Of.all fun r=>decide (r<=9))=true by decide) x (mG T))
  have U:=P (A0 pz AS Bm s t).2;have o:=h.path;have j:=h.size;rw[p]at o j;have I:=CP.add h (m:=0) (n:=⟨t,n,-1,[],true,false⟩) o (by decide) J rfl rfl (fun _=>rfl) (fun _=>.inl ⟨rfl,h0,R⟩) (by simp only[List.length_cons,List.headD_cons,if_true,BO,List.length_nil]at j ⊢;omega)
  refine⟨?_,i⟩;unfold Cf.push;rw[p];exact I
 ·omega
 ·exact absurd i C
theorem CP.end_{c:Cf}(h:CP c l)(T:c.st=s::r)(ha:(A0 pz AS Bm s 0).1≠0)(C:(A0 pz AS Bm s 0).1≠2):∃k,c.ns=[k]:=by
 rcases Nj s 0 with i|⟨-,i,-⟩|⟨-,-,i,I⟩|⟨i,-⟩
 ·exact absurd i ha
 ·exact absurd i (Nat.lt_irrefl _)
 ·have o:=h.path
  rw[T]at o;cases p:c.ns with
  | nil=>rw[p]at o;exact absurd (List.cons.inj (show s::r=[0] from o)).1 i
  | cons k t=>
   rw[p]at o;obtain⟨q,u,U,e,J,P⟩:=o;cases e
   obtain rfl:=I u _ J;cases t with
   | nil=>exact⟨k,rfl⟩
   | cons j t=>
    obtain⟨q,u,U,e,R,-⟩:=P;cases e
    exact absurd (M9 R).1 (Nat.lt_irrefl _)
 ·exact absurd i C
structure GR(w0 w:World)(eb tb rb:Nat)(tv:Value)(c:Cf)(q:List Nat)(T:List (Nd×Value))(steps:Nat)(sv nv:Value):Prop where
 Fk:Ck w0 w eb tb rb c.st c.ns T false steps sv nv
 tr:T.map (·.1)=c.tr
 row:w.ownsRow w0 3 1 tv q.length (q.map AO)
 off:∀b,tv.ownBlock=some b->(sv.ownBlock≠some b/\nv.ownBlock≠some b)/\∀p∈T,p.2.ownBlock≠some b
variable{w:World}{rb steps tb:Nat}{nv sv tv:Value}{c:Cf}{q:List Nat}{T:List (Nd×Value)}
def GR.push{t y w2:World}{l:Nat}{C:Cf}{J:Nat}{P:Value}(h:GR t w l tb rb tv c q T steps P nv)(I:Below w w y)(he:MY t y l tb rb T false J P nv C w2) :
  ∃T' j p o,GR t w2 l tb rb tv C q T' j p o/\j<=J:=by
 obtain⟨T',j,p,o,h1,h2,h3,h4,h5,h6,h7⟩:=he;refine⟨T',j,p,o,⟨h1,h2,h4 _ _ _ _ (AV h.row I) fun b i=>(h.off b i).1,fun b i=>?_⟩,h3⟩;have a2:=AW (BQ h.row b i).1 I.size;obtain⟨⟨R,U⟩,a3⟩:=h.off b i;refine⟨⟨fun e=>?_,fun e=>?_⟩,fun a1 hp e=>?_⟩
 ·rcases h5 b e with h|h
  ·exact R h
  ·omega
 ·rcases h6 b e with h|h
  ·exact U h
  ·omega
 ·rcases h7 a1 hp b e with⟨p',a0,h⟩|h
  ·exact a3 p' a0 h
  ·omega
def GR.app{I W J:World}{R t:Nat}{v':Value}{U:Value}(h:GR I w R tb rb tv c q T steps U nv)(hW:Below w w W)(r1:J.ownsRow I 3 1 v' (q.length+1) (q.map AO++[AO t]))(o:AJ I [3] W J)(C:W.grownBy J tv.ownBlock/\(v'.ownBlock=tv.ownBlock\/v'.ownBlock=some W.heap.size)) :
  GR I J R tb rb v' c (q++[t]) T steps U nv:=by
 have i:=h.Fk.later hW;obtain⟨av,t1,t2⟩:=i.tree.box;refine⟨⟨o.Ap i.box (.inr (by decide)),⟨⟨av,o.Ap t1 (.inr (by decide)),Cb t2 o (by decide)⟩,fun p l=>Iy (i.tree.kids p l) C.1 fun b j e=>(h.off b e).2 p l j,i.tree.lo,i.tree.B3⟩,Iy i.FY C.1 fun b j e=>(h.off b e).1.1 j,Iy i.nodes C.1 fun b j e=>(h.off b e).1.2 j,i.IP,i.IG,i.ap,i.lo,i.FT,i.base.trans (o.below i.base.size),i.lt,i.B3⟩,h.tr,by simpa using r1,fun b j=>?_⟩;rcases C.2 with P|P
 ·exact h.off b (P.symm.trans j)
 ·rw[P]at j
  cases j
  exact⟨⟨fun e=>Nat.lt_irrefl _ (BQ i.FY _ e).1,fun e=>Nat.lt_irrefl _ (BQ i.nodes _ e).1⟩,fun p l e=>Nat.lt_irrefl _ (BQ (i.tree.kids p l) _ e).1⟩
def GR.use{w0:World}{P:Nat}(h:GR w0 w P tb rb tv c q T steps sv nv)(l:CP c q)(hq:q.length<=40)(t:Nat) :
  c.st.length=c.ns.length+1/\(∀s∈c.st,s<AS.length)/\∃s r i,Gi pz AS Bm t 1000 c.st=some (A0 pz AS Bm s t)/\Gl pz AS Bm t 1000 c=some (A0 pz AS Bm s t,i)/\CP i q/\i.st=s::r/\(A0 pz AS Bm s t).1≠2 /\
   i.st.length<=9000/\i.ns.length<=9000/\i.tr.length<=90000:=by
 obtain⟨o,R⟩:=K0 l.path;rw[lM]at o;have hs:=l.size;obtain⟨s,r,i,p,C,j,I,J⟩:=CP.run (t:=t) hq (f:=1000) l (by omega);have U:=(K0 j.path).1;rw[lM]at U;have a0:=j.size;exact⟨o,R,s,r,i,p,C,j,I,J,by omega,by omega,by omega⟩
def ZB{w0:World}{j:Nat}(h:GR w0 w j tb rb tv c q T steps sv nv)(hi:CP c q)(hq:q.length<=40)(a8:steps<=500000)(x:Int) :
  (∃b,() 17 #[(j,0),x] w (fun e w'=>e=.returned (.bool b)/\Below w w w')/\(b=true->¬0<x)/\∀y,Below w w y->∀l:Int,() 18 #[(j,0),x,.int .i64 l] y fun e w'=>∃k:Int,k≠0/\e=.returned k/\Below y y w') \/
  (0<x/\() 17 #[(j,0),x] w (fun e w'=>e=.returned (.bool true)/\Below w w w')/\∃(t:Nat) (I:Cf),x=t/\CP I (q++[t])/\∀y,Below w w y->() 18 #[(j,0),x,q.length] y fun e w'=>e=.returned (.int .i64 0)/\MY w0 y j tb rb T false (steps+1001) sv nv I w'):=by
 have a7:pz.nt=38:=rfl;have C:∀y,Below w w y->y.cell? (tb,5)=some (.int .i64 (pz.nt:Nat))/\tb<y.heap.size:=fun y i=>by obtain⟨AT,nT,cT,AN,nN,cN,AR,nR,cR,gs,Ar,cr,nn,Aa,na,ca,Ag,ng,cg,a0,-,-,-⟩:=((h.Fk.FT.later h.Fk.base).later i).use;have t5:=Ah.cell a0 5;simp at t5;exact⟨t5,a0.lt⟩
 by_cases hx:0<=x/\x<=38
 ·obtain⟨t,rfl⟩:=Int.eq_ofNat_of_zero_le hx.1
  obtain⟨J,P,s,r,I,a1,a2,a3,a4,a5,a6⟩:=h.use hi hq t;have o:=fun y (i:Below w w y)=>OE (h.Fk.later i) (by omega) t (fun _ _=>a1) P
  by_cases ha:(A0 pz AS Bm s t).1=0\/t=0
  ·refine .inl ⟨_,OF (o w (Below.refl _ _)),fun R=>?_,fun y i l=>RC (h.Fk.later i).box (C y i).1 (C y i).2 fun p _=>?_⟩
   ·have p:=of_decide_eq_true R
    omega
   ·have h4:=o y i
    rwa [decide_eq_false (by omega)]at h4
  ·have ht:0<t:=by omega
   have U:=fun y (i:Below w w y)=>o y i
   rw[decide_eq_true (by omega)]at U;obtain⟨b1,b2⟩:=a3.push (n:=q.length) a4 ht (by omega) (by omega) a5;exact .inr ⟨by omega,OF (U w (Below.refl _ _)),t,_,rfl,b1,fun y i=>iY (h.Fk.later i) h.tr J ht (by omega) (U y i) a2 P (AG _) (by omega) a6⟩
 ·have o:=fun y (i:Below w w y)=>OE (f:=0) (a:=(0,0)) (h.Fk.later i) (by rw[(K0 hi.path).1];exact Nat.succ_pos _) x (fun J P=>absurd ⟨J,by omega⟩ hx) (K0 hi.path).2
  refine .inl ⟨_,OF (o w (Below.refl _ _)),fun R=>?_,fun y i l=>RC (h.Fk.later i).box (C y i).1 (C y i).2 fun p h4=>absurd ⟨by omega,by omega⟩ hx⟩;have p:=of_decide_eq_true R;exact absurd rfl p.2.2
def jY(j w:World)(l tb rb:Nat)(tv:Value)(k:Nat)(q:List Nat):Prop:=∃c T steps t o i,Ck j w l tb rb (Cf.st c) c.ns T true steps t o/\w.ownsRow j 3 1 tv q.length (q.map AO)/\BV (T.map (·.1)) (List.length i) [k]=some i/\i.length<=90000/\D5 (T.map (·.1)) i=q/\(∀p∈T,I9 (T.map (·.1)) p.1/\p.1.kids.length<=8)/\k<T.length
def Yk{P:World}{l:Nat}(h:GR P w l tb rb tv c q T steps sv nv)(hi:CP c q)(hq:q.length<=40)(a7:steps<=500000) :
  (() 19 #[(l,0)] w fun e w'=>e=.returned (.tuple #[.int .i64 (-1),.int .i64 3])/\Below w w w') \/
  ∃k:Nat,() 19 #[(l,0)] w fun e w'=>e=.returned (.tuple #[k,.int .i64 0])/\jY P w' l tb rb tv k q:=by
 obtain⟨h1,I,s,r,c',U,a2,j,a4,a5,a6⟩:=h.use hi hq 0;have o:=OE h.Fk (by omega) 0 (fun _ _=>U) I;by_cases ha:(A0 pz AS Bm s 0).1=0
 ·rw[decide_eq_false (fun p=>p.2.2 ha)]at o
  exact .inl (bI h.Fk.box o)
 ·rw[decide_eq_true ⟨Int.le_refl _,by omega,ha⟩]at o
  obtain⟨k,t⟩:=j.end_ a4 ha a5;refine .inr ⟨k,(Xb h.Fk h.tr h1 o a2 I (AG _) (by omega) (r:=[]) t).mono ?_⟩;rintro e w' ⟨rfl,R,a1,a3,a0,b1,i,-,b4,-,-,-⟩;obtain⟨xs,C,d2,d3⟩:=j.Jt;rw[t]at C;refine⟨rfl,c',R,a1,a3,a0,xs,b1,b4 _ _ _ _ h.row fun b p=>(h.off b p).1,?_,AY d2 a6.2.2,?_,fun a8 hp=>?_,?_⟩
  ·rw[i];exact C
  ·rw[i];exact d3
  ·rw[i]
   exact j.Cx _ (by rw[<-i];exact List.mem_map_of_mem hp)
  ·have J:=j.lt (k:=k) (by rw[t];exact List.mem_cons_self)
   rw[<-i,lM]at J;exact J
end Go.Proofs.YthaacmablcpdfaaGreatDoor
