/- Jumps back to a label. -/
import Derived.Test.YthaacmablcpdfaaGreatDoorZbc
import Derived.ScopeJumps
import Derived.WalkMore
import Derived.Test.YthaacmablcpdfaaGreatDoorNm
namespace Go.Proofs.YthaacmablcpdfaaGreatDoor
open Go.RowKit
set_option linter.unusedVariables false
set_option maxRecDepth 100000
theorem leastN{p:Nat→Prop}(h:∃n,p n):∃n,p n∧∀m,p m→n≤m:=by
 obtain⟨n,hn⟩:=h;induction n using Nat.strongRecOn with
 | _ n ih=>
  by_cases hq:∃m,m<n∧p m
  ·obtain⟨m,hm,hp⟩:=hq
   exact ih m hm hp
  ·exact⟨n,hn,fun m hm=>by
    rcases Nat.lt_or_ge m n with h1|h1
    ·exact absurd ⟨m,h1,hm⟩ hq
    ·exact h1⟩
theorem jump_mono{l:Nat}{J J':Act→World→Prop}{Q:Exit→Act→World→Prop}(hJ:∀a w,J a w→J' a w):∀(e:Exit) (a:Act) (w:World),Exit.jump l J Q e a w→Exit.jump l J' Q e a w:=by
 intro e a w h;cases e with
 | goto l'=>exact⟨h.1,hJ _ _ h.2⟩
 | _=>exact h
theorem jump_goto{l:Nat}{J:Act→World→Prop}{Q:Exit→Act→World→Prop}{a:Act}{w:World}(h:J a w):Exit.jump l J Q (.goto l) a w:=⟨rfl,h⟩
theorem wp_scope_ghost{P:Program}{c rest:Code}{a:Act}{w:World}{Q:Exit→Act→World→Prop}(l:Nat)(J:Nat→Act→World→Prop)(hf:findLabel c l=some (Code.skip.seq rest))
  (pass:∀n a w,J n a w→rest.wp P (Exit.jump l (fun a' w'=>∃m,m<n∧J m a' w') Q) a w)
  (first:(∀n a w,J n a w→rest.wp P (Exit.jump l (fun a' w'=>∃m,J m a' w') Q) a w)→c.wp P (Exit.jump l (fun a' w'=>∃m,J m a' w') Q) a w):(Code.scope c).wp P Q a w:=by
 classical
 have hμ:∃μ:Act→World→Nat,∀a w,(∃n,J n a w)→J (μ a w) a w∧∀m,J m a w→μ a w≤m:=
  ⟨fun a w=>if h:∃n,J n a w then Classical.choose (leastN h) else 0,fun a w h=>by simp only[dif_pos h];exact Classical.choose_spec (leastN h)⟩
 obtain⟨μ,hμ⟩:=hμ;refine wp_scope_jumps l (fun a w=>∃n,J n a w) μ hf (first fun n a w h=>Code.wp_mono (jump_mono fun a' w' ⟨m,_,hm⟩=>⟨m,hm⟩) (pass n a w h)) ?_;intro a w h;refine wp_seq (wp_skip ?_);obtain⟨h1,h2⟩:=hμ a w h;show rest.wp P _ a w;exact Code.wp_mono (jump_mono fun a' w' ⟨m,hm,hj⟩=>⟨⟨m,hj⟩,Nat.lt_of_le_of_lt ((hμ a' w' ⟨m,hj⟩).2 m hj) hm⟩) (pass _ a w h1)
def NumsA(A:Nat→Prop)(w:World)(v:Value)(l:List Nat):Prop:=Nums w v l∧∀b,v.ownBlock=some b→0<l.length→A b
theorem NumsA.chg{A X:Nat→Prop}{w w':World}{v:Value}{l:List Nat}(h:NumsA A w v l)(hc:Chg X w w')(hA:∀b,A b→¬X b):NumsA A w' v l:=by obtain⟨⟨⟨Ad,c,hv,hcc⟩,hs,hro⟩,hb⟩:=h;refine⟨⟨⟨Ad,c,hv,fun k x hx=>?_⟩,hs,hro⟩,hb⟩;obtain⟨b,off,hAd,hlt,hcell⟩:=hcc k x hx;have hk:=(sG.1 hx).1;have h1:=hA b (hb b (by rw[hv,hAd];rfl) (by omega));exact⟨b,off,hAd,ltL hlt hc.size,(hc.cell hlt h1 _).trans hcell⟩
theorem NumsA.at_{A:Nat→Prop}{w:World}{Ad:Option Addr}{n c:Nat}{l:List Nat}(h:NumsA A w (.slice Ad n c) l){k x:Nat}(hx:l[k]?=some x):∃b off,Ad=some ⟨b,off,none⟩∧A b∧b<w.heap.size∧w.cell? ⟨b,off+k,none⟩=some (.int .i64 x):=by
 obtain⟨⟨⟨Ad',c',hv,hcc⟩,hs,hro⟩,hb⟩:=h;cases hv
 obtain⟨b,off,hA,hlt,hcell⟩:=hcc k x hx;have hk:=(sG.1 hx).1;exact⟨b,off,hA,hb b (by rw[hA];rfl) (by omega),hlt,hcell⟩
theorem NumsA.shape{A:Nat→Prop}{w:World}{v:Value}{l:List Nat}(h:NumsA A w v l):∃Ad c,v=.slice Ad l.length c:=by obtain⟨⟨⟨Ad,c,hv,_⟩,_,_⟩,_⟩:=h;exact⟨Ad,c,hv⟩
def SetA(A:Nat→Prop)(w:World)(h:SetH)(S:Nat):Prop:=SetAt w h S∧A h.h∧A h.wb
theorem SetA.chg{A X:Nat→Prop}{w w':World}{h:SetH}{S:Nat}(hs:SetA A w h S)(hc:Chg X w w')(hA:∀b,A b→¬X b):SetA A w' h S:=⟨hs.1.chg hc (hA _ hs.2.1) (hA _ hs.2.2),hs.2⟩
def RowA(A:Nat→Prop)(w:World)(v:Value)(n:Nat)(sz:Nat)(f:Nat→Nat→Value→Prop):Prop:=
 ∃Ad c,v=.slice Ad n c∧n≤c∧n≤1000000∧∀k,k<n→∃b off,Ad=some ⟨b,off,none⟩∧A b∧b<w.heap.size∧∀j,j<sz→∃x,w.cell? ⟨b,off+k*sz+j,none⟩=some x∧f k j x
theorem RowA.chg{A X:Nat→Prop}{w w':World}{v:Value}{n sz:Nat}{f f':Nat→Nat→Value→Prop}(h:RowA A w v n sz f)(hc:Chg X w w')(hA:∀b,A b→¬X b)(hf:∀k j x,k<n→j<sz→f k j x→f' k j x):RowA A w' v n sz f':=by obtain⟨Ad,c,hv,hn,hm,hr⟩:=h;refine⟨Ad,c,hv,hn,hm,fun k hk=>?_⟩;obtain⟨b,off,hAd,hb,hlt,hx⟩:=hr k hk;refine⟨b,off,hAd,hb,ltL hlt hc.size,fun j hj=>?_⟩;obtain⟨x,h1,h2⟩:=hx j hj;exact⟨x,(hc.cell hlt (hA b hb) _).trans h1,hf k j x hk hj h2⟩
def RtsA(A:Nat→Prop)(w:World)(v:Value)(n:Nat)(f:Nat→List Nat):Prop:=RowA A w v n 1 (fun k _ x=>NumsA A w x (f k))
theorem RtsA.chg{A X:Nat→Prop}{w w':World}{v:Value}{n:Nat}{f:Nat→List Nat}(h:RtsA A w v n f)(hc:Chg X w w')(hA:∀b,A b→¬X b):RtsA A w' v n f:=RowA.chg h hc hA (fun k j x _ _ hx=>hx.chg hc hA)
theorem RtsA.at_{A:Nat→Prop}{w:World}{v:Value}{n:Nat}{f:Nat→List Nat}(h:RtsA A w v n f){k:Nat}(hk:k<n):∃b off c Ad c2,v=.slice (some ⟨b,off,none⟩) n c∧b<w.heap.size∧w.cell? ⟨b,off+k,none⟩=some (.slice Ad (f k).length c2)∧NumsA A w (.slice Ad (f k).length c2) (f k):=by obtain⟨Ad,c,hv,hn,hm,hr⟩:=h;obtain⟨b,off,hAd,hb,hlt,hx⟩:=hr k hk;obtain⟨x,h1,h2⟩:=hx 0 (by omega);obtain⟨A2,c2,hv2⟩:=h2.shape;subst hv2;refine⟨b,off,c,A2,c2,by rw[hv,hAd],hlt,?_,h2⟩;rw[Nat.mul_one,Nat.add_zero]at h1;exact h1
def TlA(A:Nat→Prop)(w:World)(m:Nat)(v:Value)(l:List (Nat×Bool)):Prop:=
 RowA A w v l.length 2 (fun d j x=>if j=0 then ∃h:SetH,x=h.v∧h.n=m∧SetA A w h (l.getD d (0,false)).1 else x=.bool (l.getD d (0,false)).2)
theorem TlA.chg{A X:Nat→Prop}{w w':World}{m:Nat}{v:Value}{l:List (Nat×Bool)}(h:TlA A w m v l)(hc:Chg X w w')(hA:∀b,A b→¬X b):TlA A w' m v l:=RowA.chg h hc hA (fun k j x _ _ hx=>by
 split at hx
 ·rename_i hj
  rw[if_pos hj];obtain⟨h,h1,h2,h3⟩:=hx;exact⟨h,h1,h2,h3.chg hc hA⟩
 ·rename_i hj
  rw[if_neg hj];exact hx)
def TlsA(A:Nat→Prop)(w:World)(m:Nat)(v:Value)(n:Nat)(T:List (List (Nat×Bool))):Prop:=RowA A w v n 1 (fun k _ x=>TlA A w m x (T.getD k []))
theorem TlsA.chg{A X:Nat→Prop}{w w':World}{m:Nat}{v:Value}{n:Nat}{T:List (List (Nat×Bool))}(h:TlsA A w m v n T)(hc:Chg X w w')(hA:∀b,A b→¬X b):TlsA A w' m v n T:=RowA.chg h hc hA (fun k j x _ _ hx=>hx.chg hc hA)
theorem TlA.at_{A:Nat→Prop}{w:World}{m:Nat}{v:Value}{l:List (Nat×Bool)}(h:TlA A w m v l){d:Nat}{t:Nat×Bool}(ht:l[d]?=some t):∃b off c,∃hs:SetH,v=.slice (some ⟨b,off,none⟩) l.length c∧(A b∧b<w.heap.size)∧w.cell? ⟨b,off+d*2,none⟩=some hs.v∧w.cell? ⟨b,off+d*2+1,none⟩=some (.bool t.2)∧hs.n=m∧SetA A w hs t.1:=by
 obtain⟨hd,ht2⟩:=sG.1 ht;have hg:l.getD d (0,false)=t:=by rw[dG,ht];rfl
 obtain⟨Ad,c,hv,hn,hm,hr⟩:=h;obtain⟨b,off,hAd,hb,hlt,hx⟩:=hr d hd;obtain⟨x0,h0,hs,rfl,hsn,hsa⟩:=hx 0 (by omega);obtain⟨x1,h1,hx1⟩:=hx 1 (by omega);have hx1:x1=.bool (l.getD d (0,false)).2:=hx1;rw[hg]at hsa hx1;exact⟨b,off,c,hs,by rw[hv,hAd],⟨hb,hlt⟩,h0,by rw[hx1]at h1;exact h1,hsn,hsa⟩
theorem TlsA.at_{A:Nat→Prop}{w:World}{m:Nat}{v:Value}{n:Nat}{T:List (List (Nat×Bool))}(h:TlsA A w m v n T){k:Nat}(hk:k<n):∃b off c x,v=.slice (some ⟨b,off,none⟩) n c∧(A b∧b<w.heap.size)∧w.cell? ⟨b,off+k,none⟩=some x∧TlA A w m x (T.getD k []):=by obtain⟨Ad,c,hv,hn,hm,hr⟩:=h;obtain⟨b,off,hAd,hb,hlt,hx⟩:=hr k hk;obtain⟨x,h1,h2⟩:=hx 0 (by omega);refine⟨b,off,c,x,by rw[hv,hAd],⟨hb,hlt⟩,?_,h2⟩;rw[Nat.mul_one,Nat.add_zero]at h1;exact h1
def CmA(A:Nat→Prop)(w:World)(m:Nat)(v:Value)(l:List Come):Prop:=
 RowA A w v l.length 3 (fun d j x=>if j=0 then x=.int .i64 ((l.getD d ⟨0,0,false⟩).s:Nat) else if j=1 then ∃h:SetH,x=h.v∧h.n=m∧SetA A w h (l.getD d ⟨0,0,false⟩).set else x=.bool (l.getD d ⟨0,0,false⟩).self)
theorem CmA.chg{A X:Nat→Prop}{w w':World}{m:Nat}{v:Value}{l:List Come}(h:CmA A w m v l)(hc:Chg X w w')(hA:∀b,A b→¬X b):CmA A w' m v l:=RowA.chg h hc hA (fun k j x _ _ hx=>by
 split at hx
 ·rename_i hj
  rw[if_pos hj];exact hx
 ·rename_i hj
  rw[if_neg hj];split at hx
  ·rename_i hj2
   rw[if_pos hj2];obtain⟨h,h1,h2,h3⟩:=hx;exact⟨h,h1,h2,h3.chg hc hA⟩
  ·rename_i hj2
   rw[if_neg hj2];exact hx)
def CmsA(A:Nat→Prop)(w:World)(m:Nat)(v:Value)(n:Nat)(CC:List (List Come)):Prop:=RowA A w v n 1 (fun k _ x=>CmA A w m x (CC.getD k []))
theorem CmsA.chg{A X:Nat→Prop}{w w':World}{m:Nat}{v:Value}{n:Nat}{CC:List (List Come)}(h:CmsA A w m v n CC)(hc:Chg X w w')(hA:∀b,A b→¬X b):CmsA A w' m v n CC:=RowA.chg h hc hA (fun k j x _ _ hx=>hx.chg hc hA)
def Old(n:Nat)(b:Nat):Prop:=b<n
end Go.Proofs.YthaacmablcpdfaaGreatDoor
