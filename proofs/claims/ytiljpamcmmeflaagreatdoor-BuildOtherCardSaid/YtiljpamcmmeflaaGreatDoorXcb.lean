/- . -/
import Derived.Test.YtiljpamcmmeflaaGreatDoorXca
set_option linter.all false
set_option maxRecDepth 100000
set_option maxHeartbeats 16000000
namespace Go.Proofs.YtiljpamcmmeflaaGreatDoor
open Go.RowKit
open Value renaming slice→nC,int→nE
open Option renaming some→nJ
open IntKind renaming i64→nM
open Ending renaming returned→nP
open World renaming cell?→nQ
open Go renaming World→nS
variable{g:PG}
section
open Go.RowKit Go.Maps
set_option maxRecDepth 1000000
def Kx(L:List AM)(s:AM):Nat:=if s∈L then L.idxOf s+1 else 0
def lu(L:List AM):Bool:=decide L.Nodup&&(decide (L.length<=240)&&L.all fun s=>decide (s.length<=100))&&(([[117,110,105,116],[108,105,115,116],[97,110,100,111,114],[112,105,112,101,115],[115,105,109,112,108,101],[112,114,101,102,105,120],[115,117,102,102,105,120]]:List AM).map (Kx L)==[39,41,42,44,66,69,70])
def Ts:(match Ea FM with | .ok g=>lu (g.T++g.N) | .error _=>false)=true:=by decide +kernel
noncomputable def sN (s:ByteArray):Int:=match Ea FM with | .ok g=>(Kx (g.T++g.N) s.data.toList:Int) | .error _=>0
def TS(h:Ea FM=.ok g)(s:List UInt8):sN (str s)=(Kx (g.T++g.N) s:Int):=by unfold sN;rw[h];rfl
def Vg:([[117,110,105,116],[108,105,115,116],[97,110,100,111,114],[112,105,112,101,115],[115,105,109,112,108,101],[112,114,101,102,105,120],[115,117,102,102,105,120]]:List AM).map (fun s=>sN (str s))=[39,41,42,44,66,69,70]:=by
 obtain⟨g,i,-⟩:=Sc;have h:=Ts;rw[i]at h;have j:=(Bool.and_eq_true_iff.1 h).2;have e:(fun s=>sN (str s))=fun s=>((Kx (g.T++g.N) s:Nat):Int):=funext fun s=>TS i s
 rw[e,show (fun s=>((Kx (g.T++g.N) s:Nat):Int))=(fun n:Nat=>(n:Int))∘Kx (g.T++g.N) from rfl,<-List.map_map,beq_iff_eq.1 j];rfl
def G1(w:nS)(R:Nat):Prop:=∃l P t i I o j J p C mp,Ah w R 67 #[nC l P t,nC i I o,nC j J p,nE nM C,.map (nJ mp)]/\GN w (.agg #[nC l P t,nC i I o,nC j J p,nE nM C]) pz/\∀y,Below w w y->∀s:ByteArray,s.size<=100->(Instr.lookup 65 (.map (nJ mp)) (.string s) false).run Tryz.prog y=.ok (nE nM (sN s)) y
def G1.later{w y:nS}{j:Nat}(h:G1 w j)(i:Below w w y):G1 y j:=by obtain⟨t,nT,J,o,nN,C,p,nR,I,P,mp,l,R,T⟩:=h;exact⟨t,nT,J,o,nN,C,p,nR,I,P,mp,l.below i l.lt,R.later i,fun z U=>T z (i.trans (U.mono i.size))⟩
def Xq{R:List Ru}{k:Nat}{s:AM}(h:(g.T++g.N)[k]?=nJ s):(Gm.Ds g R).name ((k:Int)+1)=str s:=by have i:=(sG.1 h).1;rw[BS]at i;unfold Gm.name Gm.Ds;simp only[lM];rw[if_neg mR,if_neg mR,<-Bz,dG,pG,show ((k:Int)+1-1).toNat=k by omega,h];rfl
def Ym(h:Ea FM=.ok g):(g.T++g.N).Nodup/\(g.T++g.N).length<=240/\∀s∈g.T++g.N,s.length<=100:=by have i:=Ts;rw[h]at i;obtain⟨j,-⟩:=Bool.and_eq_true_iff.1 i;obtain⟨l,o⟩:=Bool.and_eq_true_iff.1 j;obtain⟨p,t⟩:=Bool.and_eq_true_iff.1 o;exact⟨of_decide_eq_true l,of_decide_eq_true p,fun s C=>of_decide_eq_true (List.all_eq_true.1 t s C)⟩
structure JS(w1:nS)(cs:Array Value)(L:List AM)(k:Nat)(y:nS):Prop where
 be:Below w1 w1 y
 b:Ah y (w1.heap.size+1) 67 cs
 m:∃D:DataW Unit,y.ownsMap Tryz.prog 9 (plainElem Tryz.prog 3) w1.heap.size k D/\GO D (L.take k)
def JS.later{j y z:nS}{cs:Array Value}{L:List AM}{k:Nat}(h:JS j cs L k y)(i:Below y y z):JS j cs L k z:=by obtain⟨D,l,o⟩:=h.m;exact⟨h.be.trans (i.mono h.be.size),h.b.below i h.b.lt,D,Dq l (.AJ (X:=fun _=>False) i) id,o⟩
def TG{w:nS}(hm:FI w):() 8 #[] w fun e w'=>∃bb,e=nP (.pointer (nJ ⟨bb,0,none⟩))/\G1 w' bb/\w.heap.size<=bb/\Below w w w':=by
 have HP:=Hd (Rb hm);have b7:=SH;clear hm;go_enter Tryz.func8,Tryz.ntmps8
 go_wp2_with (
      go_at_call 17;refine HP.mono ?_;rintro e i ⟨v,rfl,al,P⟩
      have au:=Hd al.gn;obtain⟨g,a0,hg,b0,a8⟩:=al;have a7:=Hd a8;obtain⟨t,J,o,C,p,I,rfl,-,-,-⟩:=a8.open_;obtain⟨ao,hn,ar⟩:=Ym hg;have af:=Hd (TS hg);have aa:=Hd ao;have ae:=Hd ar;have HB:=Hd P;have aj:(Gm.Ds g (a0.map Bt.ru)).T.length=g.T.length:=by unfold Gm.Ds;simp
      have ai:(Gm.Ds g (a0.map Bt.ru)).N.length=g.N.length:=by unfold Gm.Ds;simp
      obtain⟨L,hL⟩:∃L,g.T++g.N=L:=⟨_,rfl⟩
      have ay:g.T.length+g.N.length=L.length:=by rw[<-hL,BS]
      have ab:Hid (∀(k:Nat) (s:AM),L[k]?=nJ s->(Gm.Ds g (a0.map Bt.ru)).name ((k:Int)+1)=str s):=Hd fun k s hk=>Xq (g:=g) (k:=k) (s:=s) (by rw[hL];exact hk)
      rw[hL]at aa hn ae af;have ag:Hid ((((Gm.Ds g (a0.map Bt.ru)).T.length:Nat):Int)+(((Gm.Ds g (a0.map Bt.ru)).N.length:Nat):Int)=(L.length:Int)):=Hd (by rw[aj,ai];omega);clear a8 b0 hg P ao ar aj ai hL ay;generalize Gm.Ds g (a0.map Bt.ru)=j at *;have ah:Hid (∀y,Below i i y->() 22 #[.agg #[nC t j.T.length J,nC o j.N.length C,nC p j.R.length I,j.s]] y fun e w'=>e=nP (nE nM (L.length:Int))/\Below y y w'):=Hd fun y hy=>by have h:=LO (a7.later hy);rwa [ag.out]at h
      have aw:Hid (∀(y:nS) (k:Nat) (s:List UInt8),Below i i y->L[k]?=nJ s->() 23 #[.agg #[nC t j.T.length J,nC o j.N.length C,nC p j.R.length I,j.s],nE nM ((k:Int)+1)] y fun e w'=>e=nP (.string (str s))/\Below y y w'):=Hd fun y k s hy hk=>by have h:=dM (a7.later hy) ((k:Int)+1) mR;unfold Text at h;rwa [ab.out k s hk]at h
      clear a7 ab ag;generalize j.T.length=nT at *;generalize j.N.length=T at *;generalize j.R.length=U at *;generalize j.s=R at *)
 have an:(i.alloc (.map #[] 0)).ownsMap Tryz.prog 9 (plainElem Tryz.prog 3) i.heap.size 0 (.map []:DataW Unit):=World.ownsMap_made (H:=Unit) i Tryz.prog 9 (plainElem Tryz.prog 3);have a9:Hid (JS i #[nC t nT J,nC o T C,nC p U I,R,.map (nJ i.heap.size)] L 0 ((i.alloc (.map #[] 0)).alloc (.cells #[nC t nT J,nC o T C,nC p U I,R,.map (nJ i.heap.size)] 67))):=Hd
  ⟨(AE i _).alloc mV _,Ah.newAt mV,.map [],Dq an ((Aj.refl (fun _=>False) _).alloc _) id,GO.start⟩
 clear an;go_loopw [2] (fun sv wr=>∃k:Nat,k<=L.length/\sv=nE nM ((k:Int)+1)/\Hid (JS i #[nC t nT J,nC o T C,nC p U I,R,.map (nJ i.heap.size)] L k wr)) (fun sv _=>L.length+1-(intOf sv).toNat)
 case atStart=>exact⟨0,A0 _,rfl,a9⟩
 case round=>
  obtain⟨k,hk,rfl,HN⟩:=hrel;have a6:=Hd HN.be;have P:=HN.b;have x0:=P.cell 0;have x1:=P.cell 1;have x2:=P.cell 2;have x3:=P.cell 3;have xl:=P.lt;simp at x0 x1 x2 x3;clear P a9;by_cases b1:k<L.length
  ·have b2:(k:Int)+1<=(L.length:Int):=by omega
   obtain⟨s,hs⟩:∃s,L[k]?=nJ s:=⟨_,eG b1⟩
   have a3:=Hd hs;clear hs;go_upto_region 5 with(go_at_call 22;refine(ah _ a6).mono ?_;rintro e w3 ⟨rfl,a2⟩;have l:=Hd (HN.later a2);clear a2)
   have ad:Hid (∀(y:nS) (q:Nat),JS i #[nC t nT J,nC o T C,nC p U I,R,.map (nJ i.heap.size)] L q y->(fun y:nS=>(nQ y (i.heap.size+1,0)=nJ (nC t nT J)/\nQ y (i.heap.size+1,1)=nJ (nC o T C)/\nQ y (i.heap.size+1,2)=nJ (nC p U I)/\nQ y (i.heap.size+1,3)=nJ (nE nM R)/\nQ y (i.heap.size+1,4)=nJ (.map (nJ i.heap.size))/\i.heap.size+1<y.heap.size)) y):=Hd fun y q h=>⟨h.b.cell 0,h.b.cell 1,h.b.cell 2,h.b.cell 3,h.b.cell 4,h.b.lt⟩
   replace l:=Hd (l.later (Below.refl _ w3).drew);have ax:=ad _ _ l;clear x0 x1 x2 x3 xl HN a6;refine CO 11 (fun y:nS=>(nQ y (i.heap.size+1,0)=nJ (nC t nT J)/\nQ y (i.heap.size+1,1)=nJ (nC o T C)/\nQ y (i.heap.size+1,2)=nJ (nC p U I)/\nQ y (i.heap.size+1,3)=nJ (nE nM R)/\nQ y (i.heap.size+1,4)=nJ (.map (nJ i.heap.size))/\i.heap.size+1<y.heap.size)) mU ?_;refine FE [0,1,2,3,4,5,6,7,8,10] ax ?_;refine Co 9 mU rfl rfl rfl (fun K hK=>?_);go_simp;refine(aw _ k s l.be a3).mono ?_
   rintro e w4 ⟨rfl,ak⟩;have a1:=Hd (l.later ak);clear ak;refine hK _ _ (fun _=>ad _ _ a1) ?_;clear hK K;simp only[AD,AA];obtain⟨D,a4,a5⟩:=a1.m;have b5:=mG a3;have b6:=ae s b5;obtain⟨w5,b4,b3,az⟩:=O0 a4 mR (s:=s) mR (c:=k+1) mR;have av:Hid (JS i #[nC t nT J,nC o T C,nC p U I,R,.map (nJ i.heap.size)] L (k+1) w5):=Hd (by
    have hc:=Aj.of_map az;refine⟨a1.be.trans (hc.below a1.be.size fun b9 hj e=>by omega),hc.Ap a1.b mR,_,b3,?_⟩;have h:=a5.next (a4.tidy H0) (s:=s) fun hm=>by obtain⟨b8,hi,e⟩:=List.mem_take_iff_getElem.1 hm;have:=(List.getElem?_inj mR aa).1 ((sG.2 ⟨mR,e⟩).trans a3.symm);omega
    rw[List.length_take,Nat.min_eq_left hk]at h;rw[List.take_add_one,a3.out];exact h)
   have aq:((k:Int)+1)=((k+1:Nat):Int):=by omega
   rw[<-aq]at b4;clear aq;refine Be 11 mU rfl rfl (fun K hK=>?_);go_simp;refine hK _ _ (fun h=>absurd rfl h) ?_;clear hK K;refine CI mU ?_ _;go_wp2;go_roundw
   case rel=>exact⟨k+1,mR,mY,av⟩
   case measure=>simp[intOf];omega
  ·obtain rfl:k=L.length:=by omega
   have b2:¬((L.length:Int)+1<=(L.length:Int)):=by omega
   go_wp2_with (go_at_call 22;refine(ah _ a6).mono ?_;rintro e w3 ⟨rfl,a2⟩;have l:=Hd (HN.later a2);clear a2)
   go_ret;obtain⟨D,a4,a5⟩:=l.m;rw[List.take_length]at a5;refine⟨_,rfl,⟨_,_,_,_,_,_,_,_,_,_,_,l.b,au.later l.be,fun y hy s hs=>?_⟩,by have:=HB.size;omega,HB.trans (l.be.mono HB.size)⟩;have h1:=Jv (Dq a4 (.AJ (X:=fun _=>False) hy) id) a5 (s:=s.data.toList) (by rw[show s.data.toList.length=s.size from by simp];omega);have h2:=af s.data.toList;rw[Uv s]at h1 h2;rw[h2];exact h1
end
