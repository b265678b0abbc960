/- Where the making of lookaheads stands from its b. The making of lookaheads. -/
import Derived.Test.YthaacmablcpdfaaGreatDoorZbp
import Derived.Test.YthaacmablcpdfaaGreatDoorZbq
import Derived.Test.YthaacmablcpdfaaGreatDoorNm
namespace Go.Proofs.YthaacmablcpdfaaGreatDoor
open Go.RowKit
set_option linter.unusedVariables false
set_option maxRecDepth 100000
theorem ElLooks:El Tryz.prog 58 76 1 24:=El.of (z:=.slice none 0 0) Tryz.underlying58 (by kernel_rfl) rfl (by decide)
def LkL(w:World)(m:Nat)(v:Value)(l:List (Nat×Nat)):Prop:=RowA (fun b=>b<w.heap.size) w v l.length 2 (fun k j x=>if j=0 then x=.int .i64 ((l.getD k (0,0)).1:Nat) else Nums w x (bitsL m (l.getD k (0,0)).2))
theorem LkL.later{w w':World}{m:Nat}{v:Value}{l:List (Nat×Nat)}(h:LkL w m v l)(hb:Below w.heap.size w w'):LkL w' m v l:=by
 have hs:=hb.size;refine(RowA.chg (X:=fun b=>w.heap.size≤b) h (Chg.of_below hb) (fun b hb hx=>by omega) (f':=fun k j x=>if j=0 then x=.int .i64 ((l.getD k (0,0)).1:Nat) else Nums w' x (bitsL m (l.getD k (0,0)).2)) (fun k j x _ _ hx=>?_)).mono (fun b hb=>by omega) (fun k j x _ _ hx=>hx);split at hx
 ·rename_i hj
  rw[if_pos hj];exact hx
 ·rename_i hj
  rw[if_neg hj];exact hx.later hb
def LksL(w:World)(m:Nat)(v:Value)(l:List (List (Nat×Nat))):Prop:=RowA (fun b=>b<w.heap.size) w v l.length 1 (fun k _ x=>LkL w m x (l.getD k []))
theorem LksL.later{w w':World}{m:Nat}{v:Value}{l:List (List (Nat×Nat))}(h:LksL w m v l)(hb:Below w.heap.size w w'):LksL w' m v l:=by have hs:=hb.size;exact(RowA.chg (X:=fun b=>w.heap.size≤b) h (Chg.of_below hb) (fun b hb hx=>by omega) (f':=fun k _ x=>LkL w' m x (l.getD k [])) (fun k j x _ _ hx=>hx.later hb)).mono (fun b hb=>by omega) (fun k j x _ _ hx=>hx)
theorem PrepEnd.stc{w1 w w':World}{mb fb:Nat}{v lv bv av ev fv:Value}{g:Gz}{T:List (List (Nat×Bool))}{CC:List (List Come)}{V:List (Value×Value)}{L E:List (List It)}{e:Ending}(h:PrepEnd w1 w mb v lv bv av ev fv g T CC e w')(hgn:GN w1 v g)(hA:Aut w1 lv V L E)(hm:w1.heap.size≤mb∧mb<w.heap.size)(hf:w1.heap.size≤fb∧fb<w.heap.size)
  (hT:∀k,k≤g.R.length→(T.getD k []).length=(g.right k).length) (hc:g.comesTo T (g.top+1)=some CC) :
  e=.returned (.tuple #[])∧∃rv tlv uv cv,Blk w' mb 192 (MkA v lv rv tlv uv cv bv av ev fv)∧Stc w1 w' mb fb v lv rv tlv uv cv g V L E T CC∧Below w1.heap.size w1 w'∧w.heap.size≤w'.heap.size∧Chg (·=mb) w w':=by
 obtain⟨he,h1,h2,h3,rv,tlv,uv,cv,hb,r1,r2,r3,r4⟩:=h;have hS:∀b,Stl w1 w w' b→Sx mb fb w'.heap.size b:=fun b hb=>by obtain⟨h4,h5⟩:=hb;refine⟨h5,?_,?_⟩<;>(rintro rfl;omega)
 refine⟨he,rv,tlv,uv,cv,hb,⟨hgn,hA,r1.mono hS,r2.mono hS,r3.mono hS,RowA.mono r4 hS (fun k j x _ _ hx=>hx.mono hS),hT,comesTo_le hgn.fit _ _ (leR _) hc,(comesTo_take _ _ hc).1⟩,h1,h2,h3⟩
theorem Mk.start{w1 w3:World}{mb fb n:Nat}{v lv rv tlv uv cv:Value}{g:Gz}(hb:Blk w3 mb 192 (MkA v lv rv tlv uv cv (.slice none 0 0) (.slice none 0 0) (.slice none 0 0) (.slice (some ⟨fb,0,none⟩) n n)))(hv:∃x0 x1 x2 x3,v=.agg #[x0,x1,x2,x3])(hbe:Below w1.heap.size w1 w3)(hm:w1.heap.size≤mb)(hf:w1.heap.size≤fb)(hF:Blk w3 fb 246 (Array.replicate n (.slice none 0 0)))(hn:n≤100000) :
  Mk w1 w3 w3 mb fb n n v lv rv tlv uv cv (.slice none 0 0) (.slice none 0 0) (.slice none 0 0) g [] [] [] [] (List.replicate n (.slice none 0 0,[])):=by
 refine⟨hbe,hv,⟨hm,hf,hbe.size⟩,Chg.refl _ _,hb,⟨rfl,.inl ⟨rfl,rfl⟩⟩,⟨rfl,.inl ⟨rfl,rfl⟩⟩,Fam.nil _ _,(fun p hp=>by cases hp),⟨rfl,.inl ⟨rfl,rfl⟩⟩,(fun z hz=>by cases hz),?_⟩;refine⟨⟨by simp,.inr ⟨fb,n,_,rfl,hf,hF,leR _,by unfold maxLen;omega,by simp,by simp⟩⟩,fun k x hx=>?_,fun i j x y hx hy hij k hk=>?_⟩
 ·obtain⟨h1,rfl⟩:=sG.1 hx
  simp;exact⟨rfl,.inl ⟨rfl,rfl⟩⟩
 ·obtain⟨h1,rfl⟩:=sG.1 hx
  simp[Value.ownBlock]at hk
def Gz.sumL(L:List (List It)):Nat:=(L.map List.length).sum
theorem bases_get:∀(L:List (List It)) (b k:Nat) (K:List It),L[k]?=some K→(Gz.bases L b)[k]?=some (b+Gz.sumL (L.take k))
 | [],b,k,K,h=>by simp at h
 | K0::L,b,0,K,h=>by simp[Gz.bases,Gz.sumL]
 | K0::L,b,k+1,K,h=>by rw[List.getElem?_cons_succ]at h;unfold Gz.bases;rw[List.getElem?_cons_succ,bases_get L _ k K h];unfold Gz.sumL;simp;omega
theorem bases_len:∀(L:List (List It)) (b:Nat),(Gz.bases L b).length=L.length
 | [],b=>rfl
 | K0::L,b=>by unfold Gz.bases;simp[bases_len L]
theorem bases_take{L:List (List It)}{k:Nat}{K:List It}(h:L[k]?=some K):(Gz.bases L 0).take (k+1)=(Gz.bases L 0).take k++[Gz.sumL (L.take k)]:=by rw[List.take_add_one,bases_get L 0 k K h];simp
theorem sumL_take{L:List (List It)}{k:Nat}{K:List It}(h:L[k]?=some K):Gz.sumL (L.take (k+1))=Gz.sumL (L.take k)+K.length:=by unfold Gz.sumL;rw[List.take_add_one,h];simp
theorem sumL_le(L:List (List It))(k:Nat):Gz.sumL (L.take k)≤Gz.sumL L:=by unfold Gz.sumL;have h:=congrArg (fun l=>(l.map List.length).sum) (List.take_append_drop k L);simp only[mpA,List.sum_append]at h;omega
theorem len_le_sumL{L:List (List It)}{k:Nat}{K:List It}(h:L[k]?=some K):K.length≤Gz.sumL L:=by have h1:=sumL_take h;have h2:=sumL_le L (k+1);omega
theorem edgesAll_grows{g:Gz}{L E:List (List It)}{base:List Nat}{T:List (List (Nat×Bool))}{CC:List (List Come)}:∀(l:List (List It)) (st:Nat) (q r:Nat×List (List It)×List Edge),g.edgesAll L E base T CC l st q=some r→q.1≤r.1∧q.2.2.length≤r.2.2.length∧∃G,r.2.1=q.2.1++G∧G.length=l.length
 | [],st,q,r,h=>by
  unfold Gz.edgesAll at h;cases h
  exact⟨leR _,leR _,[],by simp,rfl⟩
 | K::l,st,q,r,h=>by
  unfold Gz.edgesAll at h;cases hq:g.edgeState L E base T CC st K (base.getD st 0) (q.1,[],q.2.2) with
  | none=>rw[hq]at h;cases h
  | some q'=>rw[hq]at h;obtain⟨h1,h2,G,h3,h4⟩:=edgesAll_grows l (st+1) _ r h;obtain⟨k1,-,k3⟩:=edgeState_grows _ _ _ _ hq;simp only at h1 h2 h3 k1 k3;exact⟨by omega,by omega,q'.2.1::G,by rw[h3];simp,by simp[h4]⟩
structure LkIn(g:Gz)(L E:List (List It))(f2 f3:Nat)(Em:Nat)(C:List Nat)(T:List (List (Nat×Bool)))(CC:List (List Come))(n0:Nat)(FF:List (List It))(ed:List Edge)(A:List Nat):Prop where
 first:firstOf g f2=some (Em,C)
 tails:T=(List.range (g.R.length+1)).map (g.tailsK Em C)
 comes:g.comesTo T (g.top+1)=some CC
 edges:g.edgesAll L E (Gz.bases L 0) T CC L 0 (Gz.sumL L,[],[])=some (n0,FF,ed)
 spread:Gz.spreadI ed f3 ((List.replicate n0 0).set 0 1)=some A
 items:∀K∈L,∀x∈K,x.1≤g.R.length∧x.2≤1000000
 some_:0<Gz.sumL L
 few:n0≤100000∧L.length≤100000∧ed.length≤1000000
 rules:∀F∈FF,F.length≤100000∧∀f∈F,f.1≤g.R.length∧f.2<n0
 fit:∀e∈ed,e.dst<n0∧e.at_<n0
theorem LkIn.tlen{g:Gz}{L E:List (List It)}{f2 f3:Nat}{Em:Nat}{C:List Nat}{T:List (List (Nat×Bool))}{CC:List (List Come)}{n0:Nat}{FF:List (List It)}{ed:List Edge}{A:List Nat}(h:LkIn g L E f2 f3 Em C T CC n0 FF ed A)(k:Nat)(hk:k≤g.R.length):(T.getD k []).length=(g.right k).length:=by rw[h.tails,dG,pG,List.getElem?_range (by omega)];simp[Gz.tailsK]
theorem LkIn.small{g:Gz}{L E:List (List It)}{f2 f3:Nat}{Em:Nat}{C:List Nat}{T:List (List (Nat×Bool))}{CC:List (List Come)}{n0:Nat}{FF:List (List It)}{ed:List Edge}{A:List Nat}(h:LkIn g L E f2 f3 Em C T CC n0 FF ed A):Gz.sumL L≤100000:=by have h1:=(edgesAll_grows _ _ _ _ h.edges).1;have h2:=h.few.1;simp only at h1;omega
theorem set_mid{α:Type}(F:List α)(m:Nat)(d x:α)(i:Nat)(hF:F.length=i):(F++List.replicate (m+1) d).set i x=(F++[x])++List.replicate m d:=by rw[List.set_append_right _ _ (by omega),hF,Nat.sub_self,List.replicate_succ,List.set_cons_zero];simp
theorem edgesAll_step{g:Gz}{L E:List (List It)}{base:List Nat}{T:List (List (Nat×Bool))}{CC:List (List Come)}{K:List It}{l:List (List It)}{st n0:Nat}{F0:List (List It)}{ed0:List Edge}{r:Nat×List (List It)×List Edge}(h:g.edgesAll L E base T CC (K::l) st (n0,F0,ed0)=some r) :
  ∃q,g.edgeState L E base T CC st K (base.getD st 0) (n0,[],ed0)=some q∧g.edgesAll L E base T CC l (st+1) (q.1,F0++[q.2.1],q.2.2)=some r∧n0≤q.1∧q.1≤r.1∧q.2.2.length≤r.2.2.length∧q.2.1∈r.2.1:=by
 unfold Gz.edgesAll at h;cases hq:g.edgeState L E base T CC st K (base.getD st 0) (n0,[],ed0) with
 | none=>simp only[hq]at h;cases h
 | some q=>simp only[hq]at h;obtain⟨h1,h2,G,h3,h4⟩:=edgesAll_grows l (st+1) _ r h;obtain⟨k1,-,k3⟩:=edgeState_grows _ _ _ _ hq;exact⟨q,rfl,h,k1,h1,h2,by rw[h3];simp⟩
theorem edgeState_step{g:Gz}{L E:List (List It)}{base:List Nat}{T:List (List (Nat×Bool))}{CC:List (List Come)}{x:It}{l:List It}{st a:Nat}{p q:Gz.Eds}(h:g.edgeState L E base T CC st (x::l) a p=some q) :
  ∃p',g.edgeItem L E base T CC st a x p=some p'∧g.edgeState L E base T CC st l (a+1) p'=some q∧Grows p' q:=by
 unfold Gz.edgeState at h;cases hq:g.edgeItem L E base T CC st a x p with
 | none=>simp only[hq]at h;cases h
 | some p'=>simp only[hq]at h;exact⟨p',rfl,h,edgeState_grows _ _ _ _ h⟩
theorem LkIn.smallB{g:Gz}{L E:List (List It)}{f2 f3:Nat}{Em:Nat}{C:List Nat}{T:List (List (Nat×Bool))}{CC:List (List Come)}{n0:Nat}{FF:List (List It)}{ed:List Edge}{A:List Nat}(h:LkIn g L E f2 f3 Em C T CC n0 FF ed A):Small L (Gz.bases L 0):=by
 refine⟨bases_len _ _,fun b hb=>?_,fun l hl=>?_⟩
 ·obtain⟨k,hk,e⟩:=List.mem_iff_getElem.1 hb
  rw[bases_len]at hk;have h1:=bases_get L 0 k _ (eG hk);rw[eG (by rw[bases_len];exact hk),e]at h1;cases h1
  have:=sumL_le L k;have:=h.small;omega
 ·obtain⟨k,hk,e⟩:=List.mem_iff_getElem.1 hl
  exact leT (len_le_sumL (by rw[eG hk,e])) h.small
theorem Mk.put0{w1 w3 wr:World}{mb fb n c:Nat}{v lv rv tlv uv cv bv av ev:Value}{g:Gz}{base:List Nat}{P:List SetH}{S:List Nat}{ED:List (Option SetH×Edge)}{FR:List (Value×List It)}(h:Mk w1 w3 wr mb fb n c v lv rv tlv uv cv bv av ev g base P S ED FR){p:SetH}(hp:P[0]?=some p) :
  Calls Tryz.prog 86 #[p.v,.int .i64 0] wr fun e w'=>(∃b,e=.returned (.bool b))∧Mk w1 w3 w' mb fb n c v lv rv tlv uv cv bv av ev g base P (S.set 0 (S.getD 0 0|||1)) ED FR:=by
 have hr:=h.fam.room p (mG hp);refine(put_any (h.fam.at_ 0 p hp) (i:=0) (by rw[hr];omega)).mono ?_;rintro e w' ⟨rfl,h1,h2⟩;exact⟨⟨_,rfl⟩,h.turned (h2.one (mG hp)) (h.fam.turn hp h1 h2)⟩
theorem Itm.start{w1 w3 wr:World}{mb fb n c:Nat}{v lv rv tlv uv cv bv av ev:Value}{g:Gz}{base:List Nat}{P:List SetH}{S:List Nat}{ED:List (Option SetH×Edge)}{FR:List (Value×List It)}(h:Mk w1 w3 wr mb fb n c v lv rv tlv uv cv bv av ev g base P S ED FR){st:Nat}{fv:Value}(hf:FR[st]?=some (fv,[])) :
  Itm w1 w3 wr wr mb fb n c v lv rv tlv uv cv bv av ev g base P S ED FR (FR.map (·.2)) st P.length (P.length,[],ED.map (·.2)):=by
 refine⟨by simpa using h,rfl,⟨fv,hf⟩,?_,rfl,Keeps.refl _ _ _,leR _⟩;rw[set_get_same];rw[pG,hf];rfl
theorem Itm.rebase{w1 w3 w0 wr:World}{mb fb n c:Nat}{v lv rv tlv uv cv bv av ev:Value}{g:Gz}{base:List Nat}{P:List SetH}{S:List Nat}{ED:List (Option SetH×Edge)}{FR:List (Value×List It)}{FR0:List (List It)}{st n0:Nat}{p:Gz.Eds}(h:Itm w1 w3 w0 wr mb fb n c v lv rv tlv uv cv bv av ev g base P S ED FR FR0 st n0 p):Itm w1 w3 wr wr mb fb n c v lv rv tlv uv cv bv av ev g base P S ED FR FR0 st n0 p:=
 ⟨h.mk_,h.len,h.row,h.rows,h.eds,Keeps.refl _ _ _,h.ge⟩
theorem set0_app(s m:Nat)(h:0<s):(List.replicate s 0).set 0 1++List.replicate m 0=(List.replicate (s+m) 0).set 0 1:=by rw[←List.set_append_left _ _ (by simpa using h),List.replicate_append_replicate]
def LkO(B:Nat)(wr:World)(m:Nat)(v:Value)(l:List (Nat×Nat)):Prop:=∃Z:List (Value×(Nat×Nat)),Z.map (·.2)=l∧wr.ownsRow B 129 2 v Z.length (Z.flatMap lkC)∧∀z∈Z,wr.ownsRow B 3 1 z.1 (bitsL m z.2.2).length ((bitsL m z.2.2).map NatV)
theorem LkO.later{B:Nat}{w w':World}{m:Nat}{v:Value}{l:List (Nat×Nat)}(h:LkO B w m v l)(hb:Below w.heap.size w w'):LkO B w' m v l:=by obtain⟨Z,h1,h2,h3⟩:=h;exact⟨Z,h1,own_below h2 hb,fun z hz=>own_below (h3 z hz) hb⟩
theorem LkO.keeps{B B':Nat}{w w':World}{m:Nat}{v:Value}{l:List (Nat×Nat)}(h:LkO B w m v l)(hk:Keeps B' [76] w w'):LkO B w' m v l:=by obtain⟨Z,h1,h2,h3⟩:=h;exact⟨Z,h1,hk.own h2 (.inr (by decide)),fun z hz=>hk.own (h3 z hz) (.inr (by decide))⟩
theorem LkO.lkl{B:Nat}{w:World}{m:Nat}{v:Value}{l:List (Nat×Nat)}(h:LkO B w m v l)(hl:l.length≤1000000)(hm:m≤1000000):LkL w m v l:=by
 obtain⟨Z,rfl,h2,h3⟩:=h;unfold LkL;rw[lM]at hl ⊢;rcases own_form h2 with⟨h1,h2⟩|⟨b,c,rfl,h1,h5,h4,_,cur,hb⟩
 ·exact⟨none,0,by rw[h1,h2],by omega,hl,fun k hk=>by omega⟩
 ·refine⟨_,c,rfl,h4,hl,fun k hk=>⟨b,0,rfl,h5,h5,fun j hj=>?_⟩⟩
  obtain⟨z,hz⟩:∃z,Z[k]?=some z:=⟨_,eG hk⟩
  obtain⟨_,hz2⟩:=sG.1 hz;have hg:(Z.map (·.2)).getD k (0,0)=z.2:=by rw[dG,pG,hz];rfl
  have g0:=fm_get lkC 2 (fun _=>rfl) Z k 0 hk (by omega);have g1:=fm_get lkC 2 (fun _=>rfl) Z k 1 hk (by omega);rw[hz2]at g0 g1;have ho:=h3 z (mG hz);show ∃x,w.cell? ⟨b,0+k*2+j,none⟩=some x∧(if j=0 then x=.int .i64 (((Z.map (·.2)).getD k (0,0)).1:Nat) else Nums w x (bitsL m ((Z.map (·.2)).getD k (0,0)).2))
  rw[hg,Nat.zero_add]
  match j,hj with
  | 0,_=>exact⟨_,by rw[own_cell h2 _ (by omega),g0];rfl,rfl⟩
  | 1,_=>exact⟨z.1,by rw[own_cell h2 _ (by omega),g1];rfl,nums_own ho (by have:=bitsL_len m z.2.2;omega)⟩
structure LksR(w wr:World)(m:Nat)(ov:Value)(Z:List (Value×List (Nat×Nat))):Prop where
 below:Below w.heap.size w wr
 row:wr.ownsRow w.heap.size 76 1 ov Z.length (Z.map (·.1))
 own:∀z∈Z,LkO w.heap.size wr m z.1 z.2
theorem LksR.start(w:World)(m:Nat):LksR w w m (.slice none 0 0) []:=⟨Below.refl _ _,⟨rfl,.inl ⟨rfl,rfl⟩⟩,fun z hz=>by cases hz⟩
theorem LksR.later{w wr w2:World}{m:Nat}{ov:Value}{Z:List (Value×List (Nat×Nat))}(h:LksR w wr m ov Z)(hb:Below wr.heap.size wr w2):LksR w w2 m ov Z:=
 ⟨h.below.trans (hb.mono h.below.size),own_below h.row hb,fun z hz=>(h.own z hz).later hb⟩
theorem LksR.more{w w2 w3:World}{m:Nat}{ov:Value}{Z:List (Value×List (Nat×Nat))}(h:LksR w w2 m ov Z){tv:Value}{l:List (Nat×Nat)}(ht:LkO w.heap.size w2 m tv l){A:Option Addr}{c:Nat}
  (r1:w3.ownsRow w.heap.size 76 1 (.slice A (Z.length+1) c) (Z.length+1) (Z.map (·.1)++[tv])) (r2:Keeps w.heap.size [76] w2 w3):LksR w w3 m (.slice A (Z.length+1) c) (Z++[(tv,l)]):=by
 refine⟨h.below.trans (r2.below h.below.size),?_,fun z hz=>?_⟩
 ·rw[mpA,lnA]
  exact r1
 ·rcases mA.1 hz with h1|h1
  ·exact(h.own z h1).keeps r2
  ·rw[mS.1 h1]
   exact ht.keeps r2
theorem LksR.lks{w wr:World}{m:Nat}{ov:Value}{Z:List (Value×List (Nat×Nat))}(h:LksR w wr m ov Z)(hZ:Z.length≤1000000)(hl:∀z∈Z,z.2.length≤1000000)(hm:m≤1000000):LksL wr m ov (Z.map (·.2)):=by
 unfold LksL;rw[lM];rcases own_form h.row with⟨h1,h2⟩|⟨b,c,rfl,h1,h2,h3,_,cur,hb⟩
 ·exact⟨none,0,by rw[h1,h2],by omega,hZ,fun k hk=>by omega⟩
 ·refine⟨_,c,rfl,h3,hZ,fun k hk=>⟨b,0,rfl,h2,h2,fun j hj=>?_⟩⟩
  obtain⟨z,hz⟩:∃z,Z[k]?=some z:=⟨_,eG hk⟩
  obtain rfl:j=0:=by omega
  have hg:(Z.map (·.2)).getD k []=z.2:=by rw[dG,pG,hz];rfl
  refine⟨z.1,?_,?_⟩
  ·rw[Nat.zero_add,Nat.mul_one,Nat.add_zero,own_cell h.row k (by omega),pG,hz];rfl
  ·show LkL wr m z.1 _
   rw[hg];exact(h.own z (mG hz)).lkl (hl z (mG hz)) hm
theorem looksK_len(g:Gz)(A:List Nat)(ps:List It):(g.looksK A ps).length≤g.R.length+1:=by unfold Gz.looksK;refine leT (List.length_filterMap_le _ _) ?_;simp
theorem looksAll_range(g:Gz)(A:List Nat):∀(L:List (List It)) (bs:List Nat) (FF:List (List It)),bs.length=L.length→FF.length=L.length→g.looksAll A L bs FF=(List.range L.length).map fun s=>g.looksK A (g.endsAt (L.getD s []) (bs.getD s 0)++FF.getD s [])
 | [],bs,FF,h1,h2=>by unfold Gz.looksAll;simp
 | K::L,[],FF,h1,h2=>by simp at h1
 | K::L,b::bs,[],h1,h2=>by simp at h2
 | K::L,b::bs,F::FF,h1,h2=>by unfold Gz.looksAll;rw[looksAll_range g A L bs FF (by simpa using h1) (by simpa using h2),List.length_cons,List.range_succ_eq_map,List.map_cons,List.map_map];rfl
def LksO(B:Nat)(w:World)(m:Nat)(v:Value)(l:List (List (Nat×Nat))):Prop:=LksL w m v l∧∃Z:List (Value×List (Nat×Nat)),Z.map (·.2)=l∧w.ownsRow B 76 1 v Z.length (Z.map (·.1))∧∀z∈Z,LkO B w m z.1 z.2
theorem LkO.low{B B':Nat}{w:World}{m:Nat}{v:Value}{l:List (Nat×Nat)}(h:LkO B w m v l)(hb:B'≤B):LkO B' w m v l:=by obtain⟨Z,h1,h2,h3⟩:=h;exact⟨Z,h1,own_base h2 hb,fun z hz=>own_base (h3 z hz) hb⟩
theorem LksR.lkso{w wr:World}{m:Nat}{ov:Value}{Z:List (Value×List (Nat×Nat))}(h:LksR w wr m ov Z)(hZ:Z.length≤1000000)(hl:∀z∈Z,z.2.length≤1000000)(hm:m≤1000000){B:Nat}(hB:B≤w.heap.size):LksO B wr m ov (Z.map (·.2)):=
 ⟨h.lks hZ hl hm,Z,rfl,own_base h.row hB,fun z hz=>(h.own z hz).low hB⟩
end Go.Proofs.YthaacmablcpdfaaGreatDoor
