/- . -/
import Derived.Test.YtiljpamcmmeflaaGreatDoorXaq
import Derived.Test.YtiljpamcmmeflaaGreatDoorXan
import Derived.WideKeyPair
import Derived.ScopeJumps
import Derived.WalkMore
set_option linter.all false
set_option maxRecDepth 100000
set_option maxHeartbeats 16000000
namespace Go.Proofs.YtiljpamcmmeflaaGreatDoor
open Go.RowKit Go.Proofs.Tryz
open Value renaming slice→nC,int→nE,bool→nI
open Option renaming some→nJ,none→nK
open IntKind renaming i64→nM
open Obj renaming cells→nO
open Ending renaming returned→nP
open World renaming cell?→nQ
open Go renaming World→nS,Value→nU
variable{C S c s:Nat}{o:nU}{J:Act->nS->Prop}{A X:Nat->Prop}{w':nS}{own xs:Bool}{f:Nat->List Nat}{Q:Exit->Act->nS->Prop}
section
open Go.Maps (IsMap)
def B5.lay{w:nS}{B g n:Nat}{R:List (nU×List It)}(h:B5 w B g n c R)(T:∀(k:Nat) (x:nU×List It),R[k]?=nJ x->∀b,x.1.ownBlock=nJ b->b<C)(hs:s<n){nv:nU}{l:List It}
  (P:w.ownsRow C 256 2 nv l.length (l.flatMap Bf)) (a3:B<=C):B5 (w.setCell (g,s) nv) B g n c (R.set s (nv,l)):=by
 have a5:=h.len;obtain⟨a4,a0⟩:=h.Ap;have U:Aj (·=g) w (w.setCell (g,s) nv):=Aj.set (X:=(·=g)) (Aj.refl _ w) (p:=⟨g,s,nK⟩) (.inr rfl) _;refine⟨?_,?_,?_⟩
 ·have:=Gl h.row s mR nv
  rw[List.map_set];exact this
 ·intro k y t
  by_cases p:k=s
  ·subst p
   rw[tG mR]at t;cases t
   exact U.own (DW P a3) (Ft P a0 mT)
  ·rw[uG (fun e=>p e.symm)]at t
   have a2:=h.own k y t;exact U.own a2 (Ft a2 a0 mT)
 ·intro i j a b ha o a1 k I J
  have hn:∀k,nv.ownBlock=nJ k->C<=k:=fun k p=>(BR P k p).2
  by_cases hi:i=s
  ·subst hi
   rw[tG mR]at ha;cases ha
   rw[uG a1]at o;have h1:=hn k I;have h2:=T j b o k J;omega
  ·rw[uG (fun e=>hi e.symm)]at ha
   by_cases hj:j=s
   ·subst hj
    rw[tG mR]at o;cases o
    have h1:=hn k J;have h2:=T i a ha k I;omega
   ·rw[uG (fun e=>hj e.symm)]at o
    exact h.apart i j a b ha o a1 k I J
structure FK(w0 w wr:nS)(bb gr N:Nat)(v sv:nU)(mb tb:Nat)(R:List (nU×List It)):Prop where
 Ay:Aj (·=bb) w wr
 Ap:Ah wr bb 240 (v.cells++#[nC (nJ ⟨gr,0,nK⟩) N N,sv,.map (nJ mb),.map (nJ tb)])
 AP:B5 wr w.heap.size gr N N R
def FK.later{p w wr w2:nS}{j l N:Nat}{v:nU}{mb tb:Nat}{R:List (nU×List It)}(h:FK p w wr j l N v o mb tb R)(i:Below wr wr w2):FK p w w2 j l N v o mb tb R:=
 ⟨h.Ay.next (Aj.AJ i),h.Ap.below i h.Ap.lt,h.AP.later i⟩
def FK.below{i w wr:nS}{j o N:Nat}{v p:nU}{mb tb:Nat}{R:List (nU×List It)}(h:FK i w wr j o N v p mb tb R)(l:Below i i w)(h0:i.heap.size<=j):Below i i wr:=
 l.trans (h.Ay.below l.size (fun k t e=>by omega))
theorem FK.bg{i w wr:nS}{l p N:Nat}{v I:nU}{mb tb:Nat}{R:List (nU×List It)}{g:Gz}(h:FK i w wr l p N v I mb tb R)(t:Below i i w)(h0:i.heap.size<=l)(o:GN i v g):BG wr l v g:=by
 refine⟨o.later (h.below t h0),fun j C=>?_⟩;obtain⟨T,cT,J,U,P,cR,rfl,-,-⟩:=o.open_;rw[h.Ap.cell]
 match j,C with
 | 0,_=>rfl
 | 1,_=>rfl
 | 2,_=>rfl
 | 3,_=>rfl
def FK.cells{w0 w wr:nS}{i I N:Nat}{v sv:nU}{mb tb:Nat}{R:List (nU×List It)}{o j l:Option Addr}{nt T P p t:Nat}{J:nU}(U:v=.agg #[nC o nt C,nC j T p,nC l P t,J])(h:FK w0 w wr i I N v sv mb tb R) :
  nQ wr (i,0)=nJ (nC o nt C)/\nQ wr (i,1)=nJ (nC j T p)/\nQ wr (i,2)=nJ (nC l P t)/\nQ wr (i,3)=nJ J/\nQ wr (i,4)=nJ (nC (I,0) N N):=by
 subst U;have h:=h.Ap.cell;exact⟨h 0,h 1,h 2,h 3,h 4⟩
structure DK(w2 wr:nS)(mm n:Nat)(tv av:nU)(todo M:List Nat)(all:List It)(D:DataW Unit):Prop where
 below:Below w2 w2 wr
 todo:B8 wr w2.heap.size 3 1 tv todo.length (todo.map AS)
 all:wr.ownsRow w2 256 2 av all.length (all.flatMap Bf)
 map:Jo wr mm n D
 met:Hx D M
 lo:w2.heap.size<=mm
 Kt:n<=M.length
def DK.later{w2 wr p:nS}{l n:Nat}{tv j:nU}{o M:List Nat}{all:List It}{D:DataW Unit}(h:DK w2 wr l n tv j o M all D)(i:Below wr wr p):DK w2 p l n tv j o M all D:=
 ⟨h.below.trans (i.mono h.below.size),h.todo.below i,AV h.all i,(Aj.AJ (X:=fun _=>False) i).map h.map id,h.met,h.lo,h.Kt⟩
def DK.mapped{w2 wr l:nS}{i n:Nat}{tv p:nU}{t M:List Nat}{all:List It}{D:DataW Unit}(h:DK w2 wr i n tv p t M all D)(I:Jo l i (n+1) (D.put (Cj s) (.lit (.bool true))))(C:wr.grownBy l (nJ i)):DK w2 l i (n+1) tv p t (s::M) all (D.put (Cj s) (.lit (.bool true))):=by have o:Aj (·=i) wr l:=Aj.of_map C;exact⟨h.below.trans (o.below h.below.size (fun k P e=>by have:=h.lo;omega)),h.todo.Ay (X:=fun _=>True) (fun g J j _=>o.Ap j (Dr h.map j)),o.own h.all (fun b j=>Hq h.map h.all b j),I,h.met.next h.map.isMap s,h.lo,by have:=h.Kt;simp;omega⟩
def DK.added{w2 wr l:nS}{p n:Nat}{tv t:nU}{i M:List Nat}{all:List It}{D:DataW Unit}(h:DK w2 wr p n tv o i M all D)(C:B8 l w2.heap.size 3 1 t (i.length+1) (i.map AS++[nE nM s]))(j:AI w2 [3] wr l):DK w2 l p n t o (i++[s]) M all D:=
 ⟨h.below.trans (j.below h.below.size),by rw[Bz,BS];exact C,j.own h.all (.inr mT),j.map h.map,h.met,h.lo,h.Kt⟩
def DK.grown{w2 wr j:nS}{p n:Nat}{tv C:nU}{t M:List Nat}{all l:List It}{D:DataW Unit}(h:DK w2 wr p n tv C t M all D)(I:j.ownsRow w2 256 2 o (all.length+l.length) (all.flatMap Bf++l.flatMap Bf))(i:AI w2 [256] wr j):DK w2 j p n tv o t M (all++l) D:=
 ⟨h.below.trans (i.below h.below.size),h.todo.keeps i mT,by rw[List.flatMap_append,BS];exact I,i.map h.map,h.met,h.lo,h.Kt⟩
def DK.Ln{w2 wr:nS}{l n s:Nat}{j:nU}{A:Option Addr}{i M:List Nat}{all:List It}{D:DataW Unit}(h:DK w2 wr l n (nC A (i.length+1) c) j (s::i) M all D)(p:B8 wr w2.heap.size 3 1 o i.length (i.map AS)):DK w2 wr l n o j i M all D:=
 ⟨h.below,p,h.all,h.map,h.met,h.lo,h.Kt⟩
end
variable{N:Nat}
def GW:El Tryz.prog 34 3 1 8:=El.of (z:=nE nM 0) underlying34 mU rfl mT
def WK(g:Gz)(T M:List Nat)(x:It)(s:Nat)(l:g.next x=s)(i:g.BK s=true)(j:s ∉ M):g.IW (T,M) x=(T++[s],s::M):=by unfold Gz.IW;rw[l,if_pos ⟨i,j⟩]
def Ui(g:Gz)(T M:List Nat)(x:It)(s:Nat)(l:g.next x=s)(h:g.BK s=false\/s∈M):g.IW (T,M) x=(T,M):=by
 unfold Gz.IW;rw[l,if_neg];rintro⟨i,j⟩;rcases h with h|h
 ·rw[i]at h;cases h
 ·exact j h
def jW(l:List It):∀u∈l.flatMap Bf,u.oneCell'=true:=fun u j=>by obtain⟨x,_,i⟩:=List.mem_flatMap.1 j;unfold Bf at i;simp at i;rcases i with rfl|rfl<;>rfl
def cP{J w:nS}{o mb tb:Nat}{v bv sv:nU}{g:Gz}{bg:List (List It)}(a8:GN J v g)(au:Below J.heap.size J w)(br:J.heap.size<=o)(aw:Ah w o 240 (v.cells++#[bv,sv,.map (nJ mb),.map (nJ tb)]))(a7:g.Kc=nJ bg) :
  Calls Tryz.prog 144 #[.pointer (nJ ⟨o,0,nK⟩)] w fun e w'=>e=nP (.tuple #[])/\∃l R,FK J w w' o l (g.top+1) v sv mb tb R/\R.map (·.2)=bg:=by
 have ab:=a8.fit;have dt:=ab.nn;have du:=ab.nt;have ep:=ab.nr;have ez:=ab.start;obtain⟨N,hN⟩:∃N,N=g.top+1:=⟨_,rfl⟩
 have ec:N<=1000:=by unfold Gz.top at hN;omega
 have f1:g.top<=1000:=by omega
 have er:g.nt<g.top:=by omega
 have el:IntKind.i64.wrap ((g.top:Int)+1)=(g.top:Int)+1:=by rw[IntKind.wrap_i64];omega
 have dr:=fun y=>Ji (P:=Tryz.prog) (t:=238) (e:=148) (z:=nC nK 0 0) (bytes:=24) underlying238 mU rfl (l:=((g.top:Nat):Int)+1) (n:=N) mR mR mR y
 have eo:∀y:nS,(Instr.makeMap 274 nK).run Tryz.prog y=.ok (.map (nJ y.heap.size)) (y.alloc (.map #[] 0)):=fun y=>by kernel_rfl
 have HT:=Hd (fun y (hy:Below J.heap.size J y)=>LV (a8.later hy));have b3:=Hd (fun y (hy:Below J.heap.size J y) (s:Nat)=>MD (a8.later hy) s);have cz:=Hd ab;have az:Hid (∀k,k<=N->g.Ey k=nJ (bg.take k)):=Hd (fun k hk=>by unfold Gz.Kc at a7;rw[<-hN]at a7;exact TO N k bg hk a7)
 have bj:Hid (bg.length=N):=Hd (by unfold Gz.Kc at a7;rw[<-hN]at a7;exact(L0 _ _ a7).1)
 obtain⟨AT,cT,AN,cN,AR,cR,rfl,hc,ef⟩:=a8.open_;have e8:=Hd a8;have cr:=Hd au;have bk:=Hd aw;obtain⟨y0,y1,y2,y3⟩:nQ w ⟨o,0,nK⟩=nJ (nC AT g.nt cT)/\nQ w ⟨o,1,nK⟩=nJ (nC AN g.nn cN)/\nQ w ⟨o,2,nK⟩=nJ (nC AR g.R.length cR)/\nQ w ⟨o,3,nK⟩=nJ (nE nM g.s):=by have h:=aw.cell;exact⟨h 0,h 1,h 2,h 3⟩
 have ed:=aw.lt;have HN:=Hd hN;have a5:Hid (∀(l:Nat) (wr:nS) (R:List (nU×List It)),FK J w wr o l N (.agg #[nC AT g.nt cT,nC AN g.nn cN,nC AR g.R.length cR,nE nM g.s]) sv mb tb R->Below J.heap.size J wr/\BG wr o (.agg #[nC AT g.nt cT,nC AN g.nn cN,nC AR g.R.length cR,nE nM g.s]) g):=Hd (fun l wr R h=>⟨h.below au br,h.bg au br a8⟩);clear a8 au aw a7 hc ab dt du;rw[<-hN];clear hN;go_enter func144,ntmps144
 go_wp2_with (
        go_at_call 22;refine(HT _ cr).mono ?_;rintro e w1 ⟨rfl,b9⟩
        have bh:=Hd b9;have b1:=bk.below b9 bk.lt;have f4:=Ah.frozen b1 4;have x4:nQ w1 ⟨o,4,nK⟩=nJ bv:=Ah.cell b1 4;have y0:nQ w1 ⟨o,0,nK⟩=nJ (nC AT g.nt cT):=Ah.cell b1 0;have l1:=Ah.lt b1;have cu:=Hd b1;clear b1 b9)
 have d4:Hid (FK J w ((w1.setCell ⟨o,4,nK⟩ (nC (nJ ⟨w1.heap.size,0,nK⟩) N N)).alloc (nO (Array.replicate N (nC nK 0 0)) 148)) o w1.heap.size N (.agg #[nC AT g.nt cT,nC AN g.nn cN,nC AR g.R.length cR,nE nM g.s]) sv mb tb (List.replicate N (nC nK 0 0,[]))):=Hd (by
  have hs:=bh.size;have cm:(w1.setCell ⟨o,4,nK⟩ (nC (nJ ⟨w1.heap.size,0,nK⟩) N N)).heap.size=w1.heap.size:=by simp[World.setCell]
  have hf:=B5.fresh (w1.setCell ⟨o,4,nK⟩ (nC (nJ ⟨w1.heap.size,0,nK⟩) N N)) (B:=w.heap.size) (n:=N) (by rw[cm];exact hs) mR;rw[cm]at hf;refine⟨((Aj.AJ bh).set (X:=(·=o)) (p:=⟨o,4,nK⟩) (.inr rfl) _).alloc _,?_,hf⟩;exact(cu.AW 4 (nC (nJ ⟨w1.heap.size,0,nK⟩) N N)).alloc _)
 have bt:bg.take (g.nt+1)=List.replicate (g.nt+1) []:=by have h1:=az (g.nt+1) (by rw[HN.out];omega);rw[Q9 _ (AF _)]at h1;exact(Option.some.inj h1).symm
 have cs:=Hd bt;have ds:g.nt+1<=N:=by rw[HN.out];omega
 clear bt f4 x4 y0 l1 y1 y2 y3 dr;generalize ek:w1.heap.size=l at *;go_loopw [2] (fun ss wr=>∃(s:Nat) (R:List (nU×List It)),s<=N/\g.nt<s/\ss=nE nM s/\Hid (FK J w wr o l N (.agg #[nC AT g.nt cT,nC AN g.nn cN,nC AR g.R.length cR,nE nM g.s]) sv mb tb R)/\Hid (R.map (·.2)=bg.take s++List.replicate (N-s) [])) (fun ss _=>N-(intOf ss).toNat)
 case atStart=>refine⟨g.nt+1,_,ds,mR,mY,d4,Hd ?_⟩;rw[cs.out,List.map_replicate,List.replicate_append_replicate];congr 1;omega
 case round=>
  rename nS=>w9
  obtain⟨s,R,ev,cd,rfl,HP,HE⟩:=hrel;obtain⟨dk,ee⟩:=a5 l w9 R HP;obtain⟨z0,z1,z2,z3,z4⟩:=HP.cells rfl;have bp:=Hd (HT w9 dk);have bn:=HN.out;by_cases en:s<N
  ·obtain⟨l0,r,bz,hr,c7⟩:=WD (az (s+1) mR) cd
   have c8:=az s mR;rw[bz]at c8;cases c8
   have HR:=Hd hr;have bm:=Hd c7;have ae:s<=100000:=by omega
   have dx:¬((g.top:Int)<(s:Int)):=by omega
   have ey:(s:Int)<=(g.top:Int):=by omega
   clear bz hr c7 bn;go_wp2_with (
            go_at_call 22;refine bp.mono ?_;rintro e i ⟨rfl,ah⟩
            have bd:Jo (i.alloc (.map #[] 0)) i.heap.size 0 (.map []):=World.ownsMap_made (H:=Unit) i Tryz.prog 3 (plainElem Tryz.prog 4);obtain⟨w3,cg,cc,bw⟩:=NQ bd mR ae;have a6:=Hd (HP.later ah);have bi:Hid (Below i.heap.size i w3):=Hd (((Below.refl _ i).alloc (AF _) _).trans ((Aj.of_map bw).below mV (fun k hk e=>by have e2:k=i.heap.size:=e;omega)));have d1:=Hd cc;have d2:=Hd (Hx.start.next bd.isMap s);clear bd cc bw ah)
   have ck:=bi.size;have d7:Hid (DK i (w3.alloc (nO #[nE nM s] 3)) i.heap.size 1 (nC (nJ ⟨w3.heap.size,0,nK⟩) 1 1) (nC nK 0 0) [s] [s] [] (DataW.put (.map []) (Cj s) (.lit (.bool true)))):=Hd (by
    refine⟨bi.alloc ck _,⟨rfl,.inr ⟨w3.heap.size,0,1,#[nE nM s],rfl,ck,Ah.new _ _ _,AF _,mT,mV,fun j u hu=>?_⟩⟩,⟨rfl,.inl ⟨rfl,rfl⟩⟩,d1.alloc _,d2,AF _,AF _⟩
    match j,hu with
    | 0,hu=>simpa [AS] using hu
    | j+1,hu=>simp at hu)
   have e7:=Hd (a5 l i R a6);clear z0 z1 z2 z3 z4 cg;go_loopg [4,5] Gz.Lq (fun f tv av wr=>∃(I M:List Nat) (all:List It) (n:Nat) (D:DataW Unit),Hid (DK i wr i.heap.size n tv av I M all D)/\Hid (g.FO f I M all=nJ r))
   case atStart=>exact⟨[s],[s],[],1,_,d7,HR⟩
   case round=>
    obtain⟨I,M,all,n,D,HQ,b0⟩:=hrel;rename nS=>w4
    have a1:=Hd (a6.later HQ.below);have df:=Hd (a5 l w4 R a1);obtain⟨At,ct,dy⟩:=HQ.todo.shape;obtain⟨Aa,ca,dj⟩:=BH HQ.all;subst dy;subst dj;cases gk with
    | zero=>have h:=b0.out;simp[Gz.FO]at h
    | succ f=>
     cases I with
     | nil=>
      obtain⟨rfl,et⟩:all=r/\all.length<=300:=by
       have h:=b0.out;unfold Gz.FO at h;split at h
       · cases h
       · cases h;exact⟨rfl,mR⟩
      obtain⟨z0,z1,z2,z3,z4⟩:=a1.cells rfl;obtain⟨eb,ax⟩:=a1.AP.Ap;have ei:=Ah.frozen ax s;have bx:∃u,nQ w4 ⟨l,s,nK⟩=nJ u:=by have h1:=Bb a1.AP.row s mR;have h2:=a1.AP.len;rw[pG,eG mR]at h1;exact⟨_,h1⟩
      obtain⟨u,bx⟩:=bx;have ew:(s:Int)<(N:Int):=by omega
      have ej:=Ah.lt ax;have d5:Hid (FK J w (w4.setCell ⟨l,s,nK⟩ (nC Aa all.length ca)) o l N (.agg #[nC AT g.nt cT,nC AN g.nn cN,nC AR g.R.length cR,nE nM g.s]) sv mb tb (R.set s (nC Aa all.length ca,all))):=Hd (by have hc:Aj (·=l) w4 (w4.setCell ⟨l,s,nK⟩ (nC Aa all.length ca)):=Aj.set (X:=(·=l)) (Aj.refl _ w4) (p:=⟨l,s,nK⟩) (.inr rfl) _;have dp:=(BR a1.AP.row l rfl).2;have e0:=a6.Ay.size;refine⟨a1.Ay.set (p:=⟨l,s,nK⟩) (.inl dp) _,hc.Ap a1.Ap (Ah.Bh a1.Ap ax mT),a1.AP.lay (C:=i.heap.size) (fun k x hx b hb=>(BR (a6.AP.own k x hx) b hb).1) mR HQ.all e0⟩)
      have cy:Hid ((R.set s (nC Aa all.length ca,all)).map (·.2)=bg.take (s+1)++List.replicate (N-(s+1)) []):=Hd (by
       have hl:=congrArg List.length bm;have ay:(bg.take s).length=s:=by rw[List.length_take,bj.out];omega
       rw[List.map_set,HE.out,bm.out,List.set_append_right _ _ mR,ay,Nat.sub_self,show N-s=(N-(s+1))+1 by omega,List.replicate_succ,List.set_cons_zero,List.append_assoc];rfl)
      clear ax z0 z1 z2 z3;go_wp2_with fail
      go_roundw
      case rel=>exact⟨s+1,_,mR,mR,mY,d5,cy⟩
      case measure=>simp[intOf];omega
     | cons U I=>
      have ad:=b0.out;unfold Gz.FO at ad;have eh:I.length+M.length+all.length<=10000:=by
       split at ad
       · cases ad
       · omega
      rw[if_neg mR]at ad;have cw:=Hd ad;clear ad;obtain⟨q,off,di,es,bu,ch⟩:=HQ.todo.at_ mV;subst di;have q0:nQ w4 ⟨q,off,nK⟩=nJ (nE nM U):=by have:=ch 0 _ rfl;simpa [AS] using this
      obtain⟨z0,z1,z2,z3,z4⟩:=a1.cells rfl;have de:=Hd (lh df.2 (s:=U));have dw:(0:Int)<((I.length:Int)+1):=by omega
      simp only[List.length_cons]at bu;obtain⟨ai,dv,cf⟩:∃ai:Nat,(if ct=1 then nJ (⟨q,off,nK⟩:Addr) else nJ ⟨q,off+1,nK⟩)=nJ ⟨q,ai,nK⟩/\(ai=off+1\/(ct=1/\ai=off)):=by
       by_cases h1:ct=1
       · exact⟨off,by rw[if_pos h1],.inr ⟨h1,rfl⟩⟩
       · exact⟨off+1,by rw[if_neg h1],.inl rfl⟩
      have d3:=Hd cf;have dm:(1:Int)<=(ct:Int):=by omega
      have dn:((I.length:Int)+1)<=(ct:Int):=by omega
      clear ch cf;have eu:=Xc g U;go_wp2_with (first
       | (
          go_at_call 182;refine de.mono ?_;rintro e w5 ⟨f3,rfl,Al,cl,rfl,cj,ba⟩
          have b6:=Hd cj;have aq:=Hd (HQ.later ba);have e6:=Hd ba;clear cj ba)
       | (
          at_builtin;refine Du Pr (.tmp 51) (.tmp 52) rfl rfl (base:=i.heap.size) (n:=all.length) (m:=(g.Eg U).length) (N:=all.length+(g.Eg U).length) (xs:=all.flatMap Bf) (news:=(g.Eg U).flatMap Bf) rfl rfl aq.all (Ba.own b6 (jW _)) rfl mW mR aq.below.size ?_
          intro A6 c6 w6 r1 r2 r3;have b5:=Hd (aq.grown r1 r2);have dd:Hid (w6.ownsRow w4.heap.size 256 2 (nC Al (g.Eg U).length cl) (g.Eg U).length ((g.Eg U).flatMap Bf)):=Hd ((Aj.Cy r3.1).own b6 (fun b hb e=>by have h1:=(BR b6 b hb).2;have h2:=(BR HQ.all b e).1;omega))
          clear r1 r2 r3))
      have d9:Hid (DK i w6 i.heap.size n (nC (nJ ⟨q,ai,nK⟩) I.length (ct-1)) (nC A6 (all.length+(g.Eg U).length) c6) I M (all++g.Eg U) D):=Hd (b5.Ln (B8.tail b5.todo d3));generalize ay:g.Eg U=T at *;have d0:=Hd ay;generalize c9:T.length=ll at *;have ak:=Hd c9;have hg:g.nt<s:=cd;clear ay c9 q0 z0 z1 z2 z3 z4 dv dm dn dw bu b5 aq;go_loopw [4,56] (fun tv ii wr=>∃(j:Nat) (t P:List Nat) (n':Nat) (D':DataW Unit),j<=ll/\ii=nE nM j/\Hid (DK i wr i.heap.size n' tv (nC A6 (all.length+ll) c6) t P (all++T) D')/\Hid ((t,P)=(T.take j).foldl g.IW (I,M))/\Hid (wr.ownsRow w4.heap.size 256 2 (nC Al ll cl) ll (T.flatMap Bf))/\Hid (t.length<=I.length+j/\P.length<=M.length+j)) (fun _ ii _=>ll-(intOf ii).toNat)
      case atStart=>exact⟨0,I,M,n,D,A0 _,rfl,d9,Hd rfl,dd,Hd ⟨AF _,AF _⟩⟩
      case round=>
       obtain⟨j,t,P,n',D',hj,rfl,ar,bl,bo,b2⟩:=hrel;rename nS=>w8
       have ao:=Hd (a6.later ar.below);have dg:=Hd (a5 l w8 R ao);obtain⟨bf,bq,dz⟩:=ar.todo.shape;subst dz;by_cases dq:j<ll
       · obtain⟨⟨xr,xd⟩,hx⟩:∃x,T[j]?=nJ x:=⟨_,eG (by rw[ak.out];exact dq)⟩
         have e1:=Sr (g:=g) (s:=U) (x:=(xr,xd)) (by rw[d0.out];exact mG hx);have d6:Hid (CK w8 (nC Al ll cl) T):=Hd (by have h:=bo.out;rw[<-ak.out]at h ⊢;exact CK.own h (by rw[ak.out];omega));obtain⟨b,e4,dh,hb,c0,c1⟩:=(d6).at_ hx;subst dh;obtain⟨e3,cn⟩:=e1;simp only at e3 cn c0 c1;have f2:xd<=100000:=by omega
         clear cn;have aa:=Hd (LD g.IW T (I,M) j (xr,xd) hx);rw[<-bl.out]at aa;have b8:Hid (∀y,Below w8.heap.size w8 y->DK i y i.heap.size n' (nC bf t.length bq) (nC A6 (all.length+ll) c6) t P (all++T) D'/\y.ownsRow w4.heap.size 256 2 (nC (nJ ⟨b,e4,nK⟩) ll cl) ll (T.flatMap Bf)):=Hd (fun y hy=>⟨ar.later hy,AV bo hy⟩);obtain⟨p,ae⟩:∃p,g.next (xr,xd)=p:=⟨_,rfl⟩
         have f0:p<=g.top:=by rw[<-ae];exact cz.Oc _
         have be:p<=100000:=by omega
         have an:=Hd (fun y (hy:Below w8.heap.size w8 y)=>OD (dg.2.later hy) (k:=xr) (d:=xd) mR mR);simp only[ae]at an;have b7:=Hd ae;have a2:=Hd (AE w8 (nO #[nE nM xr,nE nM xd] 256));have e9:=Hd (Ah.new w8 256 #[nE nM xr,nE nM xd]);clear hx ae;cases a9:g.BK p with
         | false=>
           have al:=Hd a9;have ag:=Hd (aa.trans (Ui g _ _ _ p b7 (.inl a9)));clear a9;go_wp2_with (first
             | (
               go_at_call 183;refine(an _ a2).mono ?_;rintro e cp ⟨rfl,hb10⟩
               have a0:=Hd (a2.trans (hb10.mono a2.size));have a3:=Hd (ao.later a0);obtain⟨z0,z1,z2,z3,z4⟩:=a3.cells rfl;clear hb10)
             | (
               go_at_call 52;refine(b3 _ (a5 l _ R a3).1 p).mono ?_;rintro e cq ⟨rfl,a4⟩
               rw[al.out];have af:=Hd (a0.trans (a4.mono a0.size));have C:=Hd (b8 _ af);clear a4))
           go_roundw
           case rel=>exact⟨j+1,t,P,n',D',mR,mY,Hd C.1,Hd ag.symm,Hd C.2,Hd (by have:=b2.out;omega)⟩
           case measure=>simp[intOf];omega
         | true=>
           have al:=Hd a9;by_cases hm:p∈P
           · have ag:=Hd (aa.trans (Ui g _ _ _ p b7 (.inr hm)))
             have HM:=Hd hm;clear a9 hm;go_wp2_with (first
              | (
                 go_at_call 183;refine(an _ a2).mono ?_;rintro e cp ⟨rfl,hb10⟩
                 have a0:=Hd (a2.trans (hb10.mono a2.size));have a3:=Hd (ao.later a0);obtain⟨z0,z1,z2,z3,z4⟩:=a3.cells rfl;clear hb10)
              | (
                 go_at_call 52;refine(b3 _ (a5 l _ R a3).1 p).mono ?_;rintro e cq ⟨rfl,a4⟩
                 rw[al.out];have af:=Hd (a0.trans (a4.mono a0.size));have C:=Hd (b8 _ af);have bc:=LK C.1.map C.1.met be;rw[decide_eq_true HM.out]at bc;clear a4))
             go_roundw
             case rel=>exact⟨j+1,t,P,n',D',mR,mY,Hd C.1,Hd ag.symm,Hd C.2,Hd (by have:=b2.out;omega)⟩
             case measure=>simp[intOf];omega
           · have ag:=Hd (aa.trans (WK g _ _ _ p b7 a9 hm))
             have HM:=Hd hm;have em:=b2.out;clear a9 hm;go_wp2_with (first
              | (
                 at_builtin;refine NI GW (.tmp 77) (.tmp 79) rfl rfl (base:=i.heap.size) (n:=t.length) (m:=1) (N:=t.length+1) (xs:=t.map AS) (news:=[nE nM p]) rfl rfl (b4.later (AE aj (nO #[nE nM p] 3))).todo (Ba.Ap (c:=1) (cs:=[nE nM p]) (Ah.new aj 3 _) rfl mZ) mR rfl mW mR (b4.later (AE aj (nO #[nE nM p] 3))).below.size ?_
                 intro e5 ea f5 r1 r2 r3;have d8:=Hd ((b4.later (AE aj (nO #[nE nM p] 3))).added r1 r2);have dc:=Hd (by have h:=AV db (AE aj (nO #[nE nM p] 3));exact r2.own h (.inr mT))
                 clear r1 r2 r3)
              | first
                | (
                  go_at_call 183;refine(an _ a2).mono ?_;rintro e cp ⟨rfl,hb10⟩
                  have a0:=Hd (a2.trans (hb10.mono a2.size));have a3:=Hd (ao.later a0);obtain⟨z0,z1,z2,z3,z4⟩:=a3.cells rfl;clear hb10)
                | (
                  go_at_call 52;refine(b3 _ (a5 l _ R a3).1 p).mono ?_;rintro e cq ⟨rfl,a4⟩
                  rw[al.out];have af:=Hd (a0.trans (a4.mono a0.size));have C:=Hd (b8 _ af);have bc:=LK C.1.map C.1.met be;rw[decide_eq_false HM.out]at bc;have eg:=C.1.Kt;obtain⟨aj,cg,cb,bb⟩:=NQ C.1.map mR be;have b4:=Hd (C.1.mapped cb bb);have db:=Hd ((Aj.of_map bb).own C.2 (fun b hb=>Hq C.1.map C.2 b hb));clear cb bb;clear a4))
             go_roundw
             case rel=>exact⟨j+1,t++[p],p::P,n'+1,_,mR,mY,Hd (by simpa using d8.out),Hd ag.symm,dc,Hd mX⟩
             case measure=>simp[intOf];omega
       · obtain rfl:j=ll:=by omega
         have aa:Hid ((t,P)=T.foldl g.IW (I,M)):=Hd (by have:=bl.out;rw[Dd (by rw[ak.out];omega)]at this;exact this);have cv:Hid (g.FO f t P (all++T)=nJ r):=Hd (by have h:=cw.out;rw[<-aa.out]at h;exact h);have da:Hid (DK i w8 i.heap.size n' (nC bf t.length bq) (nC A6 (all.length+j) c6) t P (all++T) D'):=ar;go_wp2_with fail
         go_roundg f
         case measure=>omega
         case rel=>exact⟨t,P,all++T,n',D',da,cv⟩
  ·obtain rfl:s=N:=by omega
   have cx:Hid (R.map (·.2)=bg):=Hd (by have h:=HE.out;rw[Dd (by rw[bj.out];omega),Nat.sub_self]at h;simpa using h);have dx:¬((s:Int)<=(g.top:Int)):=by omega
   clear bn;go_wp2_with (
            go_at_call 22;refine bp.mono ?_;rintro e i ⟨rfl,ah⟩
            have a6:=Hd (HP.later ah);clear ah)
   go_end0
   exact⟨rfl,l,R,a6,cx⟩
section
open Go.Maps (IsMap Keyed)
def Uw:WideMaps.ArrKey Tryz.prog 244 3 2:=⟨underlying244,mU,mU,mU⟩
def PH:Keyed Tryz.prog 244:=Maps.Keyed.of_law Uw.law
def Wf:∃m,Tryz.prog.types.size=m+1:=⟨Tryz.prog.types.size-1,by have h:1<=Tryz.prog.types.size:=Nat.le_of_ble_eq_true mU;omega⟩
def Fh(i s:Nat):Lit:=.string (keyBytes [.int .i64 i,.int .i64 s])
def Mu{i:Nat}(j:i<=1000000)(l:s<=1000000):keyOf Tryz.prog 244 (.agg #[.int .i64 (i:Int),.int .i64 (s:Int)])=some (Fh i s):=WideMaps.keyOf_pair Uw underlying3 Wf (WalkArith.wf_i64 mR) (WalkArith.wf_i64 mR)
def U6(i s:Nat):WideAt.IsKeyLit (Fh i s):=by unfold Fh;simp[WideAt.IsKeyLit]
def fZ{i j t:Nat}(o:i<=1000000)(C:s<=1000000)(p:j<=1000000)(I:t<=1000000)(h:Fh i s=Fh j t):i=j/\s=t:=by have l:=Mu o C;rw[h]at l;have:=PH.inj l (Mu p I);injection this with this;have e:=congrArg Array.toList this;simp only[List.cons.injEq,Value.int.injEq,and_true,true_and]at e;omega
abbrev JC(w:nS)(tb n:Nat)(D:DataW Unit):Prop:=w.ownsMap Tryz.prog 244 (plainElem Tryz.prog 3) tb n D
def GX(D:DataW Unit)(m:Nat->Nat->Option Nat):Prop:=∀i s:Nat,i<=100000->s<=100000->(∀j,m i s=nJ j->Maps.has D (Fh i s)=true/\∀z,D.atKey (Fh i s) z=.lit (.int nM (j:Int)))/\(m i s=nK->Maps.has D (Fh i s)=false/\∀z,D.atKey (Fh i s) z=z)
def GX.start:GX (.map []) (fun _ _=>nK):=fun i s _ _=>⟨(fun j h=>by cases h),fun _=>⟨rfl,fun _=>rfl⟩⟩
def GX.next{D:DataW Unit}{m:Nat->Nat->Option Nat}(h:GX D m)(p:IsMap D){i s j:Nat}(I:i<=100000)(J:s<=100000):GX (D.put (Fh i s) (.lit (.int nM (j:Int)))) (fun a b=>if a=i/\b=s then nJ j else m a b):=by
 intro a b ha C;by_cases o:a=i/\b=s
 ·obtain⟨rfl,rfl⟩:=o
  refine⟨fun P l=>?_,fun l=>?_⟩
  ·simp only[and_self,if_true]at l
   cases l
   exact⟨Maps.has_put_same p (U6 _ _) _,fun z=>Maps.atKey_put_same p (U6 _ _) _ _⟩
  ·simp only[and_self,if_true]at l
   cases l
 ·have t:Fh a b≠Fh i s:=fun e=>o (fZ mR mR mR mR e)
  simp only[if_neg o,Maps.has_put_other t,Maps.atKey_put_other t];exact h a b ha C
def GX.congr{D:DataW Unit}{m j:Nat->Nat->Option Nat}(h:GX D m)(l:∀i s,m i s=j i s):GX D j:=by
 have:m=j:=funext fun i=>funext fun s=>l i s
 rw[<-this];exact h
def Uq{w:nS}{tb n:Nat}{D:DataW Unit}{m:Nat->Nat->Option Nat}(h:JC w tb n D)(hm:GX D m){i:Nat}(U:i<=100000)(hs:s<=100000) :
  (Instr.lookup 237 (.map (nJ tb)) (.agg #[nE nM (i:Int),nE nM (s:Int)]) true).run Tryz.prog w=.ok (.tuple #[nE nM (((m i s).getD 0:Nat):Int),nI (m i s).isSome]) w:=by
 have hk:=Mu (i:=i) (s:=s) mR mR;have hz:=plainElem_int (H:=Unit) (a:=0) underlying3 (WalkArith.wf_i64 mR);obtain⟨v,ps,I,P⟩:=h.look_ok PH underlying237 (Ll w) hz hk;have J:(Instr.lookup 237 (.map (nJ tb)) (.agg #[nE nM (i:Int),nE nM (s:Int)]) true).run Tryz.prog w=.ok (.tuple #[v,nI (Maps.has D (Fh i s))]) w:=I;have R:plainElem Tryz.prog 3 v=nJ (D.atKey (Fh i s) (.lit (.int nM 0)),ps):=P;obtain⟨c,rfl,T,-⟩:=plainElem_int_inv underlying3 R;have j:D.atKey (Fh i s) (.lit (.int nM 0))=.lit (.int nM c):=congrArg Prod.fst T
 rw[J];obtain⟨t,C⟩:=hm i s U hs;cases p:m i s with
 | some a0=>obtain⟨l,o⟩:=t a0 p;rw[o]at j;simp only[DataW.lit.injEq,Lit.int.injEq,true_and]at j;rw[l,<-j];rfl
 | none=>obtain⟨l,o⟩:=C p;rw[o]at j;simp only[DataW.lit.injEq,Lit.int.injEq,true_and]at j;rw[l,<-j];rfl
def WR{w:nS}{tb n:Nat}{D:DataW Unit}(h:JC w tb n D)(o:n<=10000000){i:Nat}(l:i<=100000)(p:s<=100000)(j:c<=100000) :
  ∃w',(Instr.mapUpdate 237 (.map (nJ tb)) (.agg #[nE nM (i:Int),nE nM (s:Int)]) (nE nM (c:Int))).run Tryz.prog w=.ok () w'/\JC w' tb (n+1) (D.put (Fh i s) (.lit (.int nM (c:Int))))/\w.grownBy w' (nJ tb):=
 h.update PH underlying237 mW (Mu mR mR) (plainElem_int underlying3 (WalkArith.wf_i64 mR))
def ER(E:List (List It))(i s:Nat):Option Nat:=((E.getD i []).find? (fun x=>x.1==s)).map (·.2)
def jT(i s:Nat):ER [] i s=nK:=by simp[ER]
def ma(E:List (List It))(i s:Nat):ER (E++[[]]) i s=ER E i s:=by
 unfold ER;congr 1;congr 1;rw[dG,dG];by_cases l:i<E.length
 ·rw[gL l]
 ·rw[nG (l:=E) mR]
  by_cases j:i=E.length
  ·subst j;simp
  ·rw[nG mX]
def fU(E:List (List It))(t:List It)(s j:Nat)(R:∀x∈t,x.1<s)(l i:Nat):(if l=E.length/\i=s then nJ j else ER (E++[t]) l i)=ER (E++[t++[(s,j)]]) l i:=by
 unfold ER;rw[dG,dG];by_cases p:l=E.length
 ·subst p
  have I:(E++[t])[E.length]?=nJ t:=by simp
  have J:(E++[t++[(s,j)]])[E.length]?=nJ (t++[(s,j)]):=by simp
  rw[I,J];simp only[Option.getD_some,List.find?_append,true_and];by_cases o:i=s
  ·subst o
   have:t.find? (fun x=>x.1==i)=nK:=List.find?_eq_none.2 fun x T=>by have:=R x T;simp;omega
   rw[this];simp
  ·rw[if_neg o]
   have P:(s==i)=false:=beq_false_of_ne (fun e=>o e.symm);cases t.find? (fun x=>x.1==i)<;>simp[P]
 ·rw[if_neg (fun h=>p h.1)]
  by_cases C:l < E.length
  ·rw[gL C,gL C]
  ·rw[nG (l:=E++[t]) mX,nG (l:=E++[t++[(s,j)]]) mX]
structure D1(t:List It)(a b:Nat):Prop where
 up:t.Pairwise fun x y=>x.1<y.1
 Fb:∀x∈t,a<=x.1/\x.1<b
def D1.add{t:List It}{a:Nat}(h:D1 t a s)(ha:a<=s)(j:Nat):D1 (t++[(s,j)]) a (s+1):=by
 refine⟨List.pairwise_append.2 ⟨h.up,List.pairwise_singleton _ _,fun x l y o=>?_⟩,fun x l=>?_⟩
 ·rw[mS.1 o]
  exact(h.Fb x l).2
 ·rcases mA.1 l with i|i
  ·have:=h.Fb x i;omega
  ·rw[mS.1 i];simp only;omega
def D1.skip{t:List It}{a:Nat}(h:D1 t a s):D1 t a (s+1):=⟨h.up,fun x i=>by have:=h.Fb x i;omega⟩
def Jp(t:List It)(s:Nat):List It:=t.filter fun x=>decide (x.1<s)
theorem Uz{t:List It}{a b:Nat}(h:D1 t a b)(s:Nat):Jp t (s+1)=match t.find? (fun x=>x.1==s) with|some x=>Jp t s++[x]|none=>Jp t s:=by
 unfold Jp;have key:∀t:List It,(t.Pairwise fun x y=>x.1<y.1)->t.filter (fun x=>decide (x.1<s+1))=match t.find? (fun x=>x.1==s) with|some x=>t.filter (fun x=>decide (x.1<s))++[x]|none=>t.filter (fun x=>decide (x.1<s)):=by
  intro t;induction t with
  | nil=>intro _;rfl
  | cons x t C=>
   intro P;obtain⟨l,o⟩:=List.pairwise_cons.1 P;rw[List.filter_cons,List.filter_cons,List.find?_cons];by_cases i:x.1<s
   ·rw[decide_eq_true i,decide_eq_true (by omega:x.1<s+1),if_pos rfl,if_pos rfl,C o,show (x.1==s)=false from beq_false_of_ne mR]
    cases t.find? (fun x=>x.1==s)<;>rfl
   ·by_cases p:x.1=s
    ·have I:t.filter (fun x=>decide (x.1<s+1))=[]:=List.filter_eq_nil_iff.2 fun y j=>by have:=l y j;simp;omega
     have J:t.filter (fun x=>decide (x.1<s))=[]:=List.filter_eq_nil_iff.2 fun y j=>by have:=l y j;simp;omega
     rw[decide_eq_false i,decide_eq_true (by omega:x.1<s+1),I,J,show (x.1==s)=true by simp[p]];rfl
    ·rw[decide_eq_false i,decide_eq_false (by omega:¬x.1<s+1),C o,show (x.1==s)=false from beq_false_of_ne p]
     rfl
 exact key t h.up
def Wt{t:List It}{a b:Nat}(h:D1 t a b):Jp t b=t:=List.filter_eq_self.2 fun x i=>by have:=(h.Fb x i).2;simpa using this
def RU{t:List It}{a b:Nat}(h:D1 t a b):Jp t a=[]:=List.filter_eq_nil_iff.2 fun x i=>by have:=(h.Fb x i).1;simp;omega
def Iz(g:Gz)(x:It):Prop:=x.1<=g.R.length/\x.2<=8
theorem ZW{g:Gz}(h:g.Fit)(k:Nat):(g.right k).length<=8:=by
 unfold Gz.right Gz.AX;split
 ·simp
 ·rw[dG]
  cases i:g.R[k]? with
  | none=>simp
  | some r=>exact h.short r (mG i)
theorem jK{g:Gz}{x:It}(h:g.next x≠0):x.2<(g.right x.1).length:=by
 unfold Gz.next at h;rw[dG]at h;cases i:(g.right x.1)[x.2]? with
 | none=>rw[i]at h;exact absurd rfl h
 | some y=>exact(sG.1 i).1
structure Gk(g:Gz)(R:List (List It)):Prop where
 ok:∀r∈R,∀x∈r,Iz g x
 zero:R.getD 0 []=[]
theorem Gk.move{g:Gz}(C:g.Fit){R:List (List It)}(h:Gk g R){x:It}(J:x.1<=g.R.length):Gk g (Dx g R x):=by
 unfold Dx;split
 ·exact h
 ·rename_i p
  have U:=jK p;have T:=ZW C x.1;refine⟨fun r I=>?_,?_⟩
  ·obtain⟨i,j⟩:=List.mem_iff_getElem?.1 I
   unfold IS at j;rw[List.getElem?_modify]at j;cases l:R[i]? with
   | none=>rw[l]at j;cases j
   | some t=>
    rw[l]at j;have h0:=h.ok t (mG l);simp only[Option.map_eq_map,Option.map_some,Option.some.injEq]at j;subst j;split
    ·intro y P
     rcases mA.1 P with o|o
     ·exact h0 y o
     ·rw[mS.1 o];exact⟨J,by simp only;omega⟩
    ·exact h0
  ·have h0:=h.zero
   unfold IS;rw[dG]at h0 ⊢;rw[List.getElem?_modify];cases l:R[0]? with
   | none=>rfl
   | some t=>rw[l]at h0;simp only[Option.map_eq_map,Option.map_some,Option.getD_some]at h0 ⊢;rw[if_neg p];exact h0
theorem Gk.Ls{g:Gz}(i:g.Fit):∀(l:List It) {R:List (List It)} (_:Gk g R) (_:∀x∈l,x.1<=g.R.length),Gk g (l.foldl (Dx g) R)
 | [],R,h,_=>h
 | x::l,R,h,j=>Gk.Ls i l (h.move i (j x mV)) (fun y o=>j y (by simp[o]))
theorem Gk.steps{g:Gz}(i:g.Fit){bg:List (List It)}(t:∀r∈bg,∀x∈r,x.1<=g.R.length):∀(l:List It) (p:List (List It)×List Nat) (_:Gk g p.1) (_:∀x∈l,x.1<=g.R.length),Gk g (l.foldl (g.Es bg) p).1
 | [],p,h,_=>h
 | x::l,p,h,j=>by
  refine Gk.steps i t l _ ?_ (fun y o=>j y (by simp[o]));unfold Gz.Es;simp only;split
  ·exact h.move i (j x mV)
  ·refine Gk.Ls i _ (h.move i (j x mV)) ?_
   rw[dG];cases C:bg[g.next x]? with
   | none=>intro y o;simp at o
   | some r=>exact t r (mG C)
theorem RY{g:Gz}{bg:List (List It)}(j:∀r∈bg,r.length<=300):∀(l:List It) (p:List (List It)×List Nat) (m:Nat) (_:EX m p.1),EX (m+301*l.length) (l.foldl (g.Es bg) p).1
 | [],p,m,h=>h
 | x::l,p,m,h=>by
  have o:EX (m+301) (g.Es bg p x).1:=by
   unfold Gz.Es;simp only;split
   ·exact fun r i=>AY ((h.move g x) r i) mR
   ·have C:(bg.getD (g.next x) []).length<=300:=by
     rw[dG];cases t:bg[g.next x]? with
     | none=>simp
     | some r=>exact j r (mG t)
    exact fun r i=>AY (((h.move g x).Ls g (bg.getD (g.next x) [])) r i) mR
  have:=RY (g:=g) j l _ _ o;rw[List.length_cons,show m+301*(l.length+1)=m+301+301*l.length by omega];exact this
theorem Oe:∀(l:List It) (x:It),x∈BN l->x∈l
 | [],x,h=>h
 | [y],x,h=>h
 | y::z::l,x,h=>by
  unfold BN at h;split at h
  ·exact List.mem_cons_of_mem _ (Oe (z::l) x h)
  ·rcases List.mem_cons.1 h with rfl|h
   ·exact List.mem_cons_self ..
   ·exact List.mem_cons_of_mem _ (Oe (z::l) x h)
def XO{g:Gz}(P:g.Fit){bg:List (List It)}(p:∀r∈bg,r.length<=300/\∀x∈r,x.1<=g.R.length/\x.2<=9000){K:List It}(J:∀x∈K,Iz g x)(U:K.length<=300):(∀r∈g.GK bg K,r.length<=100000/\∀x∈r,Iz g x)/\(g.GK bg K).getD 0 []=[]:=by
 have o:=Gk.steps P (bg:=bg) (fun r i x j=>((p r i).2 x j).1) K (List.replicate (g.top+1) [],[]) ⟨(fun r i x j=>by simp at i;rw[i]at j;cases j),(by simp)⟩ (fun x j=>(J x j).1);have C:=RY (g:=g) (bg:=bg) (fun r i=>(p r i).1) K (List.replicate (g.top+1) [],[]) 0 (fun r i=>by rw[List.eq_of_mem_replicate i];simp);unfold Gz.GK;refine⟨fun r i=>?_,?_⟩
 ·obtain⟨l,t,rfl⟩:=List.mem_map.1 i
  have T:=C l t;have I:=ON (IA l);rw[QI]at I;refine⟨by unfold DA;omega,fun x j=>?_⟩;unfold DA at j;exact o.ok l t x ((NN l).mem_iff.1 (Oe _ _ j))
 ·have h0:=o.zero
  rw[dG]at h0 ⊢;rw[pG];cases R:((List.foldl (g.Es bg) (List.replicate (g.top+1) [],[]) K).1)[0]? with
  | none=>rfl
  | some r=>rw[R]at h0;simp only[Option.getD_some]at h0;subst h0;rfl
end
variable{t:Nat×Bool}{b:Nat}{R:List (nU×List It)}
section
open Go.Maps (IsMap)
def Xa{w:nS}{p t n1 n2 U s2:Nat}{i j:TypeId}{v1:nU}{x1 x2:List nU}(I:w.ownsRow p i U v1 n1 x1)(J:w.ownsRow t j s2 o n2 x2)(R:i≠j)(l:v1.ownBlock=nJ b):o.ownBlock≠nJ b:=by
 rcases I.2 with⟨rfl,_⟩|⟨g,cap,C,rfl,_,P,_⟩
 ·cases l
 ·cases l
  exact DL J (show Ah w g i C from P) (Ne.symm R)
def DQ.Ay{w0 w:nS}{bb mb tb:Nat}{v:nU}{g:Gz}{sv:nU}{V:List (nU×nU)}{L:List (List It)}{D:DataW Unit}(h:DQ w0 w bb mb tb v g o sv V L D)(j:Aj X w w')(t:¬X bb)(C:¬X mb)(I:∀k,sv.ownBlock=nJ k->¬X k)(J:∀(i:Nat) (x:nU×nU),V[i]?=nJ x->∀k,x.1.ownBlock=nJ k->¬X k)(P:∀k,X k->w0.heap.size<=k):DQ w0 w' bb mb tb v g o sv V L D:=
 ⟨h.gn,j.Ap h.Ap t,j.own h.rows I,h.len,fun k x l p R=>j.own (h.items k x l p R) (J k x p),j.map h.map C,h.at_,h.ok,h.b0,h.below.trans (j.below h.below.size (fun k U e=>by have:=P k e;omega)),h.small,h.I2⟩
structure Di(w0 wr:nS)(bb mb tb gr0 c0:Nat)(v sv:nU)(g:Gz)(bg:List (List It))(V:List (nU×nU))(L:List (List It))(D:DataW Unit)(nT:Nat)(DT:DataW Unit)(m:Nat->Nat->Option Nat):Prop where
 BP:DQ w0 wr bb mb tb v g (nC (gr0,0) (g.top+1) c0) sv V L D
 AP:∃R0,B5 wr w0.heap.size gr0 (g.top+1) c0 R0/\R0.map (·.2)=bg
 tm:JC wr tb nT DT
 td:GX DT m
 ne:mb≠tb
 lo:w0.heap.size<=tb
section
variable {w0 wr w2:nS} {bb mb tb gr0 c0:Nat} {v sv:nU} {g:Gz} {bg:List (List It)} {V:List (nU×nU)} {L:List (List It)} {D:DataW Unit} {nT:Nat} {DT:DataW Unit} {m:Nat->Nat->Option Nat}
def Di.later(h:Di w0 wr bb mb tb gr0 c0 v sv g bg V L D nT DT m)(i:Below wr wr w2):Di w0 w2 bb mb tb gr0 c0 v sv g bg V L D nT DT m:=by obtain⟨j,l,o⟩:=h.AP;exact⟨h.BP.later i,⟨j,l.later i,o⟩,(Aj.AJ (X:=fun _=>False) i).map h.tm id,h.td,h.ne,h.lo⟩
def Di.kL(h:Di w0 wr bb mb tb gr0 c0 v sv g bg V L D nT DT m)(p:∀l∈bg,l.length<=300/\∀x∈l,x.1<=g.R.length/\x.2<=9000):JE wr bb g bg:=by obtain⟨i,j,o⟩:=h.AP;refine⟨⟨_,gr0,_,c0,i,?_,j,o,rfl⟩,p⟩;obtain⟨I,R,t,J,C,P,rfl,-,-⟩:=h.BP.gn.open_;exact h.BP.Ap.cell 4
def UG(bb mb:Nat)(sv:nU)(k:Nat):Prop:=k=bb\/k=mb\/sv.ownBlock=nJ k
def Di.Bu(h:Di w0 wr bb mb tb gr0 c0 v sv g bg V L D nT DT m)(t:Aj (UG bb mb sv) wr w2){B p n:Nat}(i:B5 wr B p n c R):B5 w2 B p n c R:=by
 obtain⟨C,l⟩:=i.Ap;refine i.Ay t ?_ ?_
 ·rintro(e|e|e)
  ·exact Ah.Bh h.BP.Ap l mT e.symm
  ·exact Dr h.BP.map l e
  ·exact DL h.BP.rows l mT e
 ·intro k x o b j
  rintro(e|e|e)
  ·exact DL (i.own k x o) h.BP.Ap mT (by rw[j,e])
  ·exact Hq h.BP.map (i.own k x o) b j e
  ·exact Xa h.BP.rows (i.own k x o) mT e j
def Di.PU{p:nU}{l:List (nU×nU)}{j:List (List It)}{i:DataW Unit}(h:Di w0 wr bb mb tb gr0 c0 v sv g bg V L D nT DT m)(J:DQ w0 w2 bb mb tb v g (nC (gr0,0) (g.top+1) c0) p l j i)(o:Aj (UG bb mb sv) wr w2):Di w0 w2 bb mb tb gr0 c0 v p g bg l j i nT DT m:=by
 obtain⟨t,C,I⟩:=h.AP;refine⟨J,⟨t,h.Bu o C,I⟩,o.map h.tm ?_,h.td,h.ne,h.lo⟩;rintro(e|e|e)
 ·exact Dr h.tm h.BP.Ap e.symm
 ·exact h.ne e.symm
 ·exact Hq h.tm h.BP.rows _ e rfl
def Di.Sm(h:Di w0 wr bb mb tb gr0 c0 v sv g bg V L D nT DT m)(t:wr.grownBy w2 (nJ tb)){B j n:Nat}(i:B5 wr B j n c R):B5 w2 B j n c R:=by have o:Aj (·=tb) wr w2:=Aj.of_map t;obtain⟨I,p⟩:=i.Ap;exact i.Ay o (Dr h.tm p) (fun k x C b l=>Hq h.tm (i.own k x C) b l)
def Di.mapped{i:DataW Unit}{p:Nat->Nat->Option Nat}(h:Di w0 wr bb mb tb gr0 c0 v sv g bg V L D nT DT m)(l:wr.grownBy w2 (nJ tb))(U:JC w2 tb (nT+1) i)(P:GX i p):Di w0 w2 bb mb tb gr0 c0 v sv g bg V L D (nT+1) i p:=by have J:Aj (·=tb) wr w2:=Aj.of_map l;obtain⟨t,C,I⟩:=h.AP;refine⟨h.BP.Ay J (Dr h.tm h.BP.Ap) h.ne (fun k j=>Hq h.tm h.BP.rows k j) (fun a0 x o k j=>?_) (fun k e=>by rw[show k=tb from e];exact h.lo),⟨t,h.Sm l C,I⟩,U,P,h.ne,h.lo⟩;have R:=(sG.1 o).1;exact Hq h.tm (h.BP.items a0 x _ o (eG (by rw[h.BP.len];exact R))) k j
def Di.congr{j:Nat->Nat->Option Nat}(h:Di w0 wr bb mb tb gr0 c0 v sv g bg V L D nT DT m)(l:∀i s,m i s=j i s):Di w0 wr bb mb tb gr0 c0 v sv g bg V L D nT DT j:=
 ⟨h.BP,h.AP,h.tm,h.td.congr l,h.ne,h.lo⟩
end
def Zb:El Tryz.prog 149 210 2 16:=El.of (z:=.agg #[nE nM 0,nE nM 0]) underlying149 mU rfl mT
structure Gc(w0 wr:nS)(bb tb:Nat)(cs:Array nU)(sb sc n:Nat)(V:List (nU×nU))(L T:List (List It))(nT:Nat)(DT:DataW Unit):Prop where
 Ap:Ah wr bb 240 cs
 rows:wr.ownsRow w0 151 2 (nC (sb,0) n sc) n (V.flatMap E8)
 len:V.length=n/\L.length=n/\T.length=n
 items:∀(k:Nat) (x:nU×nU) (l:List It),V[k]?=nJ x->L[k]?=nJ l->wr.ownsRow w0 256 2 x.1 l.length (l.flatMap Bf)
 trans:∀(k:Nat) (x:nU×nU) (l:List It),V[k]?=nJ x->T[k]?=nJ l->wr.ownsRow w0 210 2 x.2 l.length (l.flatMap Bf)
 apart:∀(i j:Nat) (x y:nU×nU),V[i]?=nJ x->V[j]?=nJ y->i≠j->∀k,x.2.ownBlock=nJ k->y.2.ownBlock≠nJ k
 tm:JC wr tb nT DT
 below:Below w0 w0 wr
 small:n<=100000
def Yn(V:List (nU×nU)):(V.flatMap E8).length=V.length*2:=LB E8 2 (fun _=>rfl) V
theorem fI(r:List (nU×nU))(k:Nat)(a b u:nU)(i:r[k]?=nJ (a,b)):(r.flatMap E8).set (k*2+1) u=(r.set k (a,u)).flatMap E8:=by
 induction r generalizing k with
 | nil=>simp at i
 | cons x r l=>
  cases k with
  | zero=>simp at i;subst i;rfl
  | succ k=>
   have j:(k+1)*2+1=k*2+1+2:=by omega
   have h:=l k (by simpa using i);rw[List.flatMap_cons,List.set_cons_succ,List.flatMap_cons,<-h,j];rfl
def LC{w:nS}{B n:Nat}{V:List (nU×nU)}(h:w.ownsRow B 151 2 (nC (b,0) n c) n (V.flatMap E8)){k:Nat}{x:nU×nU}(t:V[k]?=nJ x):nQ w (b,k*2)=nJ x.1/\nQ w (b,k*2+1)=nJ x.2:=by obtain⟨l,o⟩:=sG.1 t;have p:=h.1;rw[Yn]at p;have i:=CR E8 2 (fun _=>rfl) V k 0 l mR;have j:=CR E8 2 (fun _=>rfl) V k 1 l mR;rw[o,Nat.add_zero]at i;rw[o]at j;exact⟨by rw[Bb h (k*2) mR,i];rfl,by rw[Bb h (k*2+1) mR,j];rfl⟩
section
variable {w0 wr w2 w3:nS} {bb tb:Nat} {cs:Array nU} {sb sc n:Nat} {V:List (nU×nU)} {L T:List (List It)} {nT:Nat} {DT:DataW Unit}
def Gc.later(h:Gc w0 wr bb tb cs sb sc n V L T nT DT)(i:Below wr wr w2):Gc w0 w2 bb tb cs sb sc n V L T nT DT:=
 ⟨h.Ap.below i h.Ap.lt,AV h.rows i,h.len,fun k x l a b=>AV (h.items k x l a b) i,fun k x l a b=>AV (h.trans k x l a b) i,h.apart,(Aj.AJ (X:=fun _=>False) i).map h.tm id,h.below.trans (i.mono h.below.size),h.small⟩
def Gc.put(h:Gc w0 wr bb tb cs sb sc n V L T nT DT){i:Nat}{iv tv:nU}{l:List It}(I:V[i]?=nJ (iv,tv))(hl:T[i]?=nJ l)(hW:Below wr wr w2){x:It}{A:Option Addr}
  (r1:w3.ownsRow w0 210 2 (nC A (l.length+1) c) (l.length+1) (l.flatMap Bf++Bf x)) (P:AI w0 [210] w2 w3) (r3:w2.grownBy w3 tv.ownBlock/\((Value.slice A (l.length+1) c).ownBlock=tv.ownBlock\/(Value.slice A (l.length+1) c).ownBlock=nJ w2.heap.size)) :
  Gc w0 (w3.setCell (sb,i*2+1) (nC A (l.length+1) c)) bb tb cs sb sc n (V.set i (iv,nC A (l.length+1) c)) L (T.set i (l++[x])) nT DT:=by
 have o:=h.later hW;obtain⟨hi,-⟩:=sG.1 I;have a3:=h.len;obtain⟨sg,sn,a8⟩:∃a0,Ah w2 sb 151 a0/\w0.heap.size<=sb:=by
  rcases o.rows.2 with⟨hh,_⟩|⟨g',cap,a0,hh,hB,a6,_⟩
  ·cases hh
  ·cases hh;exact⟨a0,a6,hB⟩
 have a4:=P.Ap sn (.inr mT);have R:Aj (·=sb) w3 (w3.setCell (sb,i*2+1) (nC A (l.length+1) c)):=Aj.set (X:=(·=sb)) (Aj.refl _ w3) (p:=⟨sb,i*2+1,nK⟩) (.inr rfl) _;have a5:Aj (fun k=>tv.ownBlock=nJ k) w2 w3:=Aj.Cy r3.1;have ab:=o.trans i _ l I hl;have a7:=P.own o.rows (.inr mT);refine⟨R.Ap (P.Ap o.Ap (.inr mT)) (Ah.Bh o.Ap sn mT),?_,⟨by simp[a3],by simp[a3],by simp[a3]⟩,?_,?_,?_,R.map (P.map o.tm) (fun e=>Dr o.tm sn e.symm),?_,h.small⟩
 ·have:=Gl a7 (i*2+1) mR (nC A (l.length+1) c)
  rw[fI V i iv tv _ I]at this;exact this
 ·intro k y m j C
  have:∃y2,V[k]?=nJ (y.1,y2):=by
   by_cases p:k=i
   ·subst p
    rw[tG hi]at j;cases j
    exact⟨tv,I⟩
   ·rw[uG (fun e=>p e.symm)]at j
    exact⟨y.2,j⟩
  obtain⟨y2,a9⟩:=this;have t:=P.own (o.items k _ m a9 C) (.inr mT);exact R.own t (Ft t a4 mT)
 ·intro k y m j C
  by_cases p:k=i
  ·subst p
   rw[tG hi]at j;rw[tG mR]at C;cases j
   cases C
   have t:w3.ownsRow w0 210 2 (nC A (l.length+1) c) (l++[x]).length ((l++[x]).flatMap Bf):=by simpa using r1
   exact R.own t (Ft t a4 mT)
  ·rw[uG (fun e=>p e.symm)]at j C
   have h0:=o.trans k y m j C;have t:=a5.own h0 (fun b hb e=>h.apart k i y _ j I p b hb e);exact R.own t (Ft t a4 mT)
 ·intro a b y z j J a1 k p a2
  have key:∀(m:Nat) (y:nU×nU),V[m]?=nJ y->m≠i->∀k,(Value.slice A (l.length+1) c).ownBlock=nJ k->y.2.ownBlock≠nJ k:=fun m y j C k U h4=>by
   rcases r3.2 with e|e
   ·rw[e]at U
    exact h.apart i m _ y I j (fun e=>C e.symm) k U h4
   ·rw[e]at U
    cases U
    have aa:=(sG.1 j).1;have:=(BR (o.trans m y _ j (eG mR)) _ h4).1;omega
  by_cases ha:a=i
  ·subst ha
   rw[tG hi]at j;cases j
   rw[uG a1]at J;exact key b z J (fun e=>a1 e.symm) k p a2
  ·rw[uG (fun e=>ha e.symm)]at j
   by_cases hb:b=i
   ·subst hb
    rw[tG hi]at J;cases J
    exact key a y j ha k a2 p
   ·rw[uG (fun e=>hb e.symm)]at J
    exact h.apart a b y z j J a1 k p a2
 ·exact(o.below.trans (P.below o.below.size)).setCell (p:=⟨sb,i*2+1,nK⟩) a8 _
def Gc.GC(h:Gc w0 wr bb tb cs sb sc n V L T nT DT)(p:∀l∈L,l.length<=100000)(C:∀l∈T,l.length<=100000):Fu wr (nC (sb,0) n sc) V L T:=by have o:=h.len;obtain rfl:V.length=n:=o.1;have t:sb<wr.heap.size:=(BR h.rows sb rfl).1;refine⟨⟨_,sc,rfl,(OB h.rows).1,fun k x j=>⟨sb,0,rfl,t,?_⟩⟩,o.2,fun k x l j i=>CK.own (h.items k x l j i) (by have:=p l (mG i);omega),fun k x l j i=>CK.own (h.trans k x l j i) (by have:=C l (mG i);omega),h.small⟩;have:=LC h.rows j;simpa using this
end
def Ev(T E:List (List It))(n i s:Nat):Prop:=T.length=n/\E.length=n/\∀k,k<n->T.getD k []=if k<i then E.getD k [] else if k=i then Jp (E.getD k []) s else[]
theorem Ks{E:List (List It)}{a:Nat}(h:∀t∈E,D1 t a b)(k:Nat):D1 (E.getD k []) a b:=by
 rw[dG];cases i:E[k]? with
 | none=>exact⟨List.Pairwise.nil,fun x j=>by cases j⟩
 | some t=>exact h t (mG i)
def Ev.start{E:List (List It)}(h:∀t∈E,D1 t 1 N):Ev (List.replicate E.length []) E E.length 0 1:=by refine⟨mV,rfl,fun k i=>?_⟩;rw[if_neg mR,RU (Ks h k)];rw[dG,List.getElem?_replicate];split<;>split<;>rfl
theorem Ev.skip{T E:List (List It)}{n i:Nat}(h:Ev T E n i s)(R:∀t∈E,D1 t 1 N)(j:ER E i s=nK):Ev T E n i (s+1):=by
 obtain⟨o,p,C⟩:=h;refine⟨o,p,fun k J=>?_⟩;rw[C k J];by_cases l:k=i
 ·subst l
  have I:(E.getD k []).find? (fun x=>x.1==s)=nK:=by
   unfold ER at j;cases P:(E.getD k []).find? (fun x=>x.1==s) with
   | none=>rfl
   | some x=>rw[P]at j;cases j
  rw[Uz (Ks R k) s,I]
 ·simp[l]
def Ev.add{T E:List (List It)}{n i j:Nat}(h:Ev T E n i s)(hr:∀t∈E,D1 t 1 N)(hi:i<n)(l:ER E i s=nJ j):Ev (T.set i (T.getD i []++[(s,j)])) E n i (s+1):=by
 obtain⟨R,U,I⟩:=h;refine⟨by simpa using R,U,fun k J=>?_⟩;by_cases o:k=i
 ·subst o
  have P:(T.set k (T.getD k []++[(s,j)])).getD k []=T.getD k []++[(s,j)]:=by rw[dG,tG mR];rfl
  rw[P,I k J,if_neg mR,if_pos rfl,if_neg mR,if_pos rfl,Uz (Ks hr k) s];unfold ER at l;cases p:(E.getD k []).find? (fun x=>x.1==s) with
  | none=>rw[p]at l;cases l
  | some x=>rw[p]at l;have C:=List.find?_some p;simp only[beq_iff_eq]at C;simp only[Option.map_some,Option.some.injEq]at l;obtain⟨a,b⟩:=x;simp only at C l;subst C;subst l;rfl
 ·rw[dG,uG (fun e=>o e.symm),<-dG,I k J]
  simp[o]
def Ev.EL{T E:List (List It)}{n i:Nat}(h:Ev T E n i N)(o:∀t∈E,D1 t 1 N):Ev T E n (i+1) 1:=by
 obtain⟨p,C,I⟩:=h;refine⟨p,C,fun k J=>?_⟩;rw[I k J];by_cases j:k<i
 ·rw[if_pos j,if_pos mR]
 ·rw[if_neg j]
  by_cases l:k=i
  ·subst l
   rw[if_pos rfl,if_pos mR,Wt (Ks o k)]
  ·rw[if_neg l,if_neg mR]
   split
   ·rw[RU (Ks o k)]
   ·rfl
def Ev.done{T E:List (List It)}{n:Nat}(h:Ev T E n n s):T=E:=by
 obtain⟨l,o,j⟩:=h;apply List.ext_getElem?;intro k;by_cases i:k<n
 ·have:=j k i
  rw[if_pos i,dG,dG,eG mR,eG mR]at this;rw[eG mR,eG mR];exact congrArg nJ this
 ·rw[nG mR,nG mR]
def Di.aD{w0 wr:nS}{bb mb tb gr0 c0 sb sc:Nat}{v:nU}{g:Gz}{bg:List (List It)}{V:List (nU×nU)}{L:List (List It)}{D:DataW Unit}{nT:Nat}{DT:DataW Unit}{m:Nat->Nat->Option Nat}(h:Di w0 wr bb mb tb gr0 c0 v (nC (sb,0) V.length sc) g bg V L D nT DT m):Gc w0 wr bb tb (v.cells++#[nC (nJ ⟨gr0,0,nK⟩) (g.top+1) c0,nC (nJ ⟨sb,0,nK⟩) V.length sc,.map (nJ mb),.map (nJ tb)]) sb sc V.length V L (List.replicate V.length []) nT DT:=by
 refine⟨h.BP.Ap,h.BP.rows,⟨rfl,h.BP.len,mV⟩,h.BP.items,fun k x l o I=>?_,fun i j x y o P J k p=>?_,h.tm,h.BP.below,h.BP.small⟩
 ·have t:=h.BP.I2 x (mG o)
  have C:=List.eq_of_mem_replicate (mG I);subst C;rw[t];exact⟨rfl,.inl ⟨rfl,rfl⟩⟩
 ·rw[h.BP.I2 x (mG o)]at p
  cases p
end
variable{i j m n:Nat}{g:Gz}{T:List (List (Nat×Bool))}
def Xy(l:List It):Er [] l=(0,[l]):=by simp[Er]
def dO(L:List (List It))(l:List It):L.length<=(Er L l).2.length/\(Er L l).2.length<=L.length+1/\(Er L l).1<=L.length:=by
 unfold Er;split
 ·rename_i h
  exact⟨AF _,mV,Nat.le_of_lt (List.idxOf_lt_length_of_mem h)⟩
 ·simp
def W3{P:It->Prop}{L:List (List It)}{l:List It}(h:∀m∈L,∀x∈m,P x)(j:∀x∈l,P x):∀m∈(Er L l).2,∀x∈m,P x:=by
 unfold Er;split
 ·exact h
 ·intro m o
  rcases mA.1 o with i|i
  ·exact h m i
  ·rw[mS.1 i];exact j
def Mh{w:nS}{B:Nat}{e:TypeId}{v:nU}{xs:List nU}(h:w.ownsRow B e s v n xs)(j:0<n):∃g c,v=nC (nJ ⟨g,0,nK⟩) n c:=by
 rcases Bg h with⟨_,h0⟩|⟨b,c,i,_⟩
 ·omega
 ·exact⟨b,c,i⟩
theorem OI:∀(t:List It) (a b:Nat),D1 t a b->t.length<=b-a
 | [],a,b,h=>A0 _
 | x::t,a,b,h=>by obtain⟨j,l⟩:=List.pairwise_cons.1 h.up;have o:=h.Fb x mV;have:=OI t (x.1+1) b ⟨l,fun y i=>by have:=j y i;have:=h.Fb y (by simp[i]);omega⟩;rw[List.length_cons];omega
def UM(x:It)(y:nS):Ba (y.alloc (nO #[x.1,x.2] 210)) (nC (y,0) 1 1) 1 2 (Bf x):=
 Ba.Ap (c:=1) (cs:=Bf x) (Ah.new y 210 _) rfl (fun u i=>by unfold Bf at i;simp at i;rcases i with rfl|rfl<;>rfl)
structure KU(w W:nS)(bb mb tb gb:Nat)(v:nU):Prop where
 below:Below w w W
 Ap:Ah W bb 240 (v.cells++#[nC nK 0 0,nC nK 0 0,.map (nJ mb),.map (nJ tb)])
 pm:Ie W mb 0 (.map [])
 tm:JC W tb 0 (.map [])
 M0:Ah W gb 58 v.cells
 lo:w.heap.size<=bb/\w.heap.size<=mb/\w.heap.size<=tb/\mb≠tb
def KU.make{w i:nS}{v:nU}(l:Below w w i)(o:Ah i j 58 v.cells):KU w (((i.alloc (.map #[] 0)).alloc (.map #[] 0)).alloc (nO (v.cells++#[nC nK 0 0,nC nK 0 0,.map (nJ i.heap.size),.map (nJ (i.heap.size+1))]) 240)) (i.heap.size+1+1) i.heap.size (i.heap.size+1) j v:=by
 have p:=l.size;refine⟨((l.alloc p _).alloc mX _).alloc mX _,Ah.newAt mV,?_,?_,((o.alloc _).alloc _).alloc _,mR⟩
 ·exact((World.ownsMap_made (H:=Unit) i Tryz.prog 9 (plainElem Tryz.prog 3)).alloc _).alloc _
 ·have:=World.ownsMap_made (H:=Unit) (i.alloc (.map #[] 0)) Tryz.prog 244 (plainElem Tryz.prog 3)
  rw[show (i.alloc (.map #[] 0)).heap.size=i.heap.size+1 by simp]at this;exact this.alloc _
def KU.bH{w W w2 t:nS}{mb tb U:Nat}{v:nU}{bg:List (List It)}(h:KU w W j mb tb U v)(hg:GN w v g)(I:N=g.top+1)(p:FK w W w2 j C N v (nC nK 0 0) mb tb R)(hR:R.map (·.2)=bg)(l:Below w2 w2 t):Di w t j mb tb C N v (nC nK 0 0) g bg [] [] (.map []) 0 (.map []) (ER []):=by
 have T:=p.below h.below h.lo.1;have P:=p.later l;have h3:=T.trans (l.mono T.size);have a0:=Dr h.pm h.Ap;have a1:=Dr h.tm h.Ap;have J:∀{b:Nat} {k:TypeId} {n:Nat} {D:DataW Unit},W.ownsMap Tryz.prog k (plainElem Tryz.prog 3) b n D->b≠j->t.ownsMap Tryz.prog k (plainElem Tryz.prog 3) b n D:=fun hh a2=>(Aj.AJ (X:=fun _=>False) l).map (p.Ay.map hh a2) id
 refine⟨⟨hg,?_,⟨rfl,.inl ⟨rfl,rfl⟩⟩,rfl,(fun k x a4 i=>by simp at i),J h.pm (Ne.symm a0),I0.start,(fun a4 hl=>by cases hl),⟨h.lo.1,h.lo.2.1⟩,h3,mV,(fun x i=>by cases i)⟩,⟨R,?_,hR⟩,J h.tm (Ne.symm a1),?_,h.lo.2.2.2,h.lo.2.2.1⟩
 ·have:=P.Ap
  subst I;exact this
 ·have o:=P.AP
  subst I;exact⟨DW o.row h.below.size,fun k x i=>DW (o.own k x i) h.below.size,o.apart⟩
 ·exact GX.start.congr fun a3 s=>(jT a3 s).symm
structure LZ(B:Nat)(w:nS)(v:nU)(V:List (nU×nU))(L E:List (List It)):Prop where
 rows:w.ownsRow B 151 2 v V.length (V.flatMap E8)
 len:L.length=V.length/\E.length=V.length
 items:∀(k:Nat) (x:nU×nU) (l:List It),V[k]?=nJ x->L[k]?=nJ l->w.ownsRow B 256 2 x.1 l.length (l.flatMap Bf)
 trans:∀(k:Nat) (x:nU×nU) (l:List It),V[k]?=nJ x->E[k]?=nJ l->w.ownsRow B 210 2 x.2 l.length (l.flatMap Bf)
 GC:Fu w v V L E
variable{w:nS}{v:nU}{l:List (Nat×Bool)}{k:Nat}
def Gc.aJ{o wr:nS}{t tb:Nat}{cs:Array nU}{V:List (nU×nU)}{L T:List (List It)}{p:DataW Unit}(h:Gc o wr t tb cs i j n V L T C p)(ha:Fu wr (nC (i,0) n j) V L T):LZ o.heap.size wr (nC (i,0) n j) V L T:=by have l:=h.len;obtain rfl:V.length=n:=l.1;exact⟨h.rows,l.2,h.items,h.trans,ha⟩
def RB(hg:GN w v g){f:Nat}{Lf Ef:List (List It)}(ha:g.J8 f=nJ (Lf,Ef)) :
  Calls Tryz.prog 114 #[v] w fun e w'=>∃lv V,e=nP (.tuple #[lv,nE nM 0])/\LZ w.heap.size w' lv V Lf Ef/\Below w.heap.size w w':=by
 have aq:=hg.fit;have ga:=aq.nr;have f5:=aq.nn;have f6:=aq.nt;obtain⟨bg,c0,dd⟩:∃bg,g.Kc=nJ bg/\g.Jd bg f 0 [[(g.R.length,0)]] []=nJ (Lf,Ef):=by
  unfold Gz.J8 at ha;cases hq:g.Kc with
  | none=>rw[hq]at ha;cases ha
  | some bg=>rw[hq]at ha;exact⟨bg,rfl,ha⟩
 have dc:=L0 _ _ c0;obtain⟨N,hN⟩:∃N,N=g.top+1:=⟨_,rfl⟩
 have fw:N<=1000:=by unfold Gz.top at hN;omega
 have gi:g.top<=1000:=by omega
 have cf:=Hd dc.2;have e5:=Hd dd;have ea:=Hd aq;have cg:=Hd (fun y (hy:Below w.heap.size w y)=>Pt (hg.later hy));have HT:=Hd (fun y (hy:Below w.heap.size w y)=>LV (hg.later hy));have cd:=Hd (fun y (hy:Below w.heap.size w y)=>cF (hg.later hy));have cq:=Hd (fun(y:nS) (l mb tb:Nat) (hy:Below w.heap.size w y) (h1:w.heap.size<=l) (h2:Ah y l 240 (v.cells++#[nC nK 0 0,nC nK 0 0,.map (nJ mb),.map (nJ tb)]))=>cP hg hy h1 h2 c0);have HG:=Hd hg;have f0:∀y:nS,(Instr.makeMap 65 nK).run Tryz.prog y=.ok (.map (nJ y.heap.size)) (y.alloc (.map #[] 0)):=fun y=>by kernel_rfl
 have f1:∀y:nS,(Instr.makeMap 237 nK).run Tryz.prog y=.ok (.map (nJ y.heap.size)) (y.alloc (.map #[] 0)):=fun y=>by kernel_rfl
 obtain⟨J,T,C,P,I,R,rfl,hc,g0⟩:=hg.open_;have bd:=Hd (Ah.new w 58 #[nC J g.nt T,nC C g.nn P,nC I g.R.length R,nE nM g.s]);have av:=Hd (AE w (nO #[nC J g.nt T,nC C g.nn P,nC I g.R.length R,nE nM g.s] 58));have HN:=Hd hN;clear hg ha c0 dd dc hc aq hN f5 f6;go_enter func114,ntmps114
 go_wp2_with (first
  | (
    go_at_call 68;refine(cg _ av).mono ?_;rintro e w1 ⟨rfl,bv⟩
    have cc:=Hd (av.trans (bv.mono av.size));have g1:=bd.below bv bd.lt;have bb:=Hd g1;have y0:=Ah.cell g1 0;have y1:=Ah.cell g1 1;have y2:=Ah.cell g1 2;have y3:=Ah.cell g1 3;simp at y0 y1 y2 y3;have l1:=Ah.lt g1;have a5:=Hd (KU.make cc (v:=.agg #[nC J g.nt T,nC C g.nn P,nC I g.R.length R,nE nM g.s]) g1);clear g1 bv)
  | (
    go_at_call 144;refine(cq _ _ _ _ a5.below a5.lo.1 a5.Ap).mono ?_;rintro e w2 ⟨rfl,gr,R0,hp,hR⟩
    rw[<-HN.out]at hp;have HP:=Hd hp;have cr:=Hd hR;have g2:=hp.Ay.Ap a5.M0 (Ne.symm (Ah.Bh a5.Ap a5.M0 mT));have y0:=Ah.cell g2 0;have y1:=Ah.cell g2 1;have y2:=Ah.cell g2 2;have y3:=Ah.cell g2 3;simp[Value.cells]at y0 y1 y2 y3;have b7:=Hd (hp.below a5.below a5.lo.1);have a1:=Hd g2;clear hp hR g2)
  | (
    go_at_call 146;refine(cd _ b7).mono ?_;rintro e w3 ⟨A3,c3,rfl,dt,bw⟩
    have aj:=Hd (KU.bH a5 HG HN HP cr bw);have cs:=Hd (DW dt b7.size);have a9:=Hd (a1.below bw a1.lt);clear dt bw)
  | (
    go_at_call 145;refine(RG aj.BP (l:=[(g.R.length,0)]) (by simpa using cs.out) ⟨mV,fun x p=>by rw[mS.1 p];constructor<;>simp only<;>omega⟩ mV).mono ?_;rintro e w4 ⟨rfl,sv,V,D,db,c6⟩
    have ay:=Hd (aj.PU db c6);have ch:=Hd (c6.Ap a9 (by
      rintro(e|e|e)
      · exact Ah.Bh aj.BP.Ap a9 mT e.symm
      · exact Dr aj.BP.map a9 e
      · cases e))
    clear db c6))
 rw[Xy]at ay;simp only at ay;clear y0 y1 y2 y3 a5 HP cr b7 a1 aj cs a9 cc bb bd av cg cd cq f0 f1;generalize eu:w1.heap.size+1+1=l at *;generalize ff:w1.heap.size+1=tb at *;generalize ez:w1.heap.size=mb at *;generalize dg:w.heap.size=gb at ch ⊢;have fo:=Hd dg;clear eu ff ez dg l1;generalize e1:(.agg #[nC J g.nt T,nC C g.nn P,nC I g.R.length R,nE nM g.s]:nU)=vv at ay;have an:=Hd e1;clear e1;go_loopg [6] f (fun fu ii wr=>∃(i:Nat) (sv:nU) (V:List (nU×nU)) (L:List (List It)) (D:DataW Unit) (nT:Nat) (DT:DataW Unit) (E:List (List It)),ii=nE nM i/\Hid (Di w wr l mb tb gr N vv sv g bg V L D nT DT (ER E))/\Hid (g.Jd bg fu i L E=nJ (Lf,Ef))/\Hid (E.length=i/\i<=L.length/\L.length<=2000/\nT<=1000*i/\1<=L.length)/\Hid ((∀a8∈L,∀x∈a8,Iz g x)/\∀t∈E,D1 t 1 N)/\Hid (Ah wr gb 58 #[nC J g.nt T,nC C g.nn P,nC I g.R.length R,nE nM g.s]))
 case atStart=>exact⟨0,_,_,_,_,0,_,[],rfl,ay,e5,Hd ⟨rfl,A0 _,mV,A0 _,mV⟩,Hd ⟨fun a8 hl x p=>by rw[mS.1 hl]at p;rw[mS.1 p];exact⟨AF _,mV⟩,fun t ht=>by cases ht⟩,ch⟩
 case round=>
  rename nS=>w9
  obtain⟨i,sv,V,L,D,nT,DT,E,rfl,HS,b8,ec,ah,be⟩:=hrel;obtain⟨bm,dh,d5,ds,d4⟩:=ec.out;have bp:=HS.BP.len;obtain⟨sb,sc,fd⟩:=Mh HS.BP.rows mR;subst fd;have c5:nQ w9 ⟨l,5,nK⟩=nJ (nC (nJ ⟨sb,0,nK⟩) V.length sc):=by have h:=HS.BP.Ap.cell 5;rw[<-an.out]at h;exact h
  cases gk with
  | zero=>have h:=b8.out;simp[Gz.Jd]at h
  | succ fu=>
   by_cases b5:i<V.length
   · obtain⟨K,hK⟩:∃K,L[i]?=nJ K:=⟨_,eG mR⟩
     obtain⟨⟨iv,gm⟩,bu⟩:∃x,V[i]?=nJ x:=⟨_,eG b5⟩
     have a3:=b8.out;unfold Gz.Jd at a3;rw[hK]at a3;simp only at a3;have d3:K.length<=300:=by
       split at a3
       · cases a3
       · omega
     rw[if_neg mR]at a3;have d6:(Gz.FD (g.GK bg K) 0 L []).1.length<=2000:=by
       split at a3
       · cases a3
       · omega
     rw[if_neg mR]at a3;have e3:=Hd a3;have bn:=ah.1 K (mG hK);have d8:=XO ea cf bn d3;obtain⟨s0,s1⟩:=LC HS.BP.rows bu;have c9:=HS.BP.items i _ K bu hK;obtain⟨Ai,ci,dj⟩:=BH c9;simp only at dj s0;subst dj;have eo:=Hd (Yr HS.BP.bg (HS.kL cf) (CK.own c9 mR) d3 (fun x p=>by have:=bn x p;unfold Iz at this;omega));have g3:(i:Int)<(V.length:Int):=by omega
     have cy:=Hd d8;have eh:=Hd d6;have cm:=Hd bp;have ba:=Hd bm;have bi:=Hd (show L.length<=2000/\nT<=1000*i/\i<=2000 by omega);generalize dn:K.length=kl at *;generalize f9:g.GK bg K=a7 at *;have fq:=Hd dn;have fg:w9.heap.size<=w9.heap.size:=AF _;clear a3 d8 d6 bp bm dn f9 s1 c9 bu hK bn d5 ds dh d4 fg;go_wp2_with (
              go_at_call 147;refine eo.mono ?_;rintro e w5 ⟨er,ep,R5,rfl,c7,d7,bx⟩
              rw[<-HN.out]at c7;have e7:=Hd c7;have cu:=Hd d7;have el:=Hd (HS.later bx);have eb:=Hd (be.below bx be.lt);rw[<-HN.out];clear c7 d7 bx)
     have e6:Hid (Di w w5 l mb tb gr N vv (nC (nJ ⟨sb,0,nK⟩) V.length sc) g bg V L D nT DT (ER (E++[[]]))):=Hd (el.congr fun a b=>(ma E a b).symm);go_loopw [49] (fun jj wr=>∃(s:Nat) (cb:nU) (V':List (nU×nU)) (j:List (List It)) (D':DataW Unit) (a6:Nat) (au:DataW Unit) (t:List It),s<=N/\jj=nE nM s/\Hid (Di w wr l mb tb gr N vv cb g bg V' j D' a6 au (ER (E++[t])))/\Hid (B5 wr w9.heap.size er N ep R5)/\Hid (Gz.FD (a7.drop s) s j t=Gz.FD a7 0 L [])/\Hid (D1 t 1 s)/\Hid (j.length<=L.length+s/\a6<=nT+s/\L.length<=j.length)/\Hid (∀a8∈j,∀x∈a8,Iz g x)/\Hid (Ah wr gb 58 #[nC J g.nt T,nC C g.nn P,nC I g.R.length R,nE nM g.s])) (fun jj _=>N-(intOf jj).toNat)
     case atStart=>exact⟨0,_,V,L,D,nT,DT,[],A0 _,rfl,e6,e7,Hd rfl,Hd ⟨List.Pairwise.nil,fun x p=>by cases p⟩,Hd ⟨AF _,AF _,AF _⟩,Hd ah.1,eb⟩
     case round=>
       obtain⟨s,cb,V',j,D',a6,au,t,fa,rfl,a2,aa,cv,ax,bh,bj,ad⟩:=hrel;rename nS=>w6
       by_cases c8:s<N
       · have ew:=aa.len
         obtain⟨⟨kv,U⟩,p⟩:∃x,R5[s]?=nJ x:=⟨_,eG mR⟩
         have b6:a7[s]?=nJ U:=by rw[<-cu.out,pG,p];rfl
         have cx:=Hd (by have h:=cv.out;rw[IH b6,Gz.FD]at h;exact h);have dp:=cy.1 U (mG b6);have em:Hid (U.length≠0->1<=s):=Hd (fun f4=>by
          rcases Nat.eq_zero_or_pos s with rfl|h
          ·have h0:=cy.2
           rw[dG,b6]at h0;exact absurd (by rw[show U=[] from h0];rfl) f4
          ·exact h)
         have ai:=Hd (aa.own s _ p);obtain⟨Ak,ck,dq⟩:=BH ai;simp only at dq;subst dq;have g5:=Bb aa.row s mR;rw[pG,p]at g5;simp only[Option.map_some]at g5;have gg:(s:Int)<(N:Int):=by omega
         obtain⟨fs,ft,fv⟩:=bh.out;obtain⟨fx,fy,fz⟩:=bi.out;have bf:=Hd dp;clear ew p b6 dp;by_cases h0:U.length=0
         ·have bk:Hid (Gz.FD (a7.drop (s+1)) (s+1) j t=Gz.FD a7 0 L []):=Hd (by have h:=cx.out;rw[if_pos h0]at h;exact h)
          generalize f7:U.length=q0 at *;subst h0;clear f7;go_wp2_with fail
          go_roundw
          case rel=>exact⟨s+1,cb,V',j,D',a6,au,t,mR,mY,a2,aa,bk,Hd ax.skip,Hd mR,bj,ad⟩
          case measure=>simp[intOf];omega
         ·have bk:Hid (Gz.FD (a7.drop (s+1)) (s+1) (Er j U).2 (t++[(s,(Er j U).1)])=Gz.FD a7 0 L []):=Hd (by have h:=cx.out;rw[if_neg h0]at h;exact h)
          have du:=em h0;have gd:(0:Int)<(U.length:Int):=by omega
          obtain⟨dy,dz,fc⟩:=dO j U;have bq:=a2.BP.len;have d9:V'.length<100000:=by omega
          have hj:(Er j U).1<=100000:=by omega
          have es:=ba.out;have ev:i<=100000:=by omega
          have b9:=Hd (a2.later (w2:=w6.drew) ((Below.refl _ w6).drew));have en:=Hd (RG b9.BP (iv:=nC Ak U.length ck) (l:=U) (DW (AV ai ((Below.refl _ w6).drew)) (HS.BP.below.size)) ⟨bf.1,fun x p=>by have:=bf.2 x p;unfold Iz at this;omega⟩ d9);have z7:nQ w6 ⟨l,7,nK⟩=nJ (.map (nJ tb)):=by have h:=a2.BP.Ap.cell 7;rw[<-an.out]at h;exact h
          have HJ:=Hd (And.intro dy (And.intro dz hj));generalize dk:(Er j U).1=jj at *;generalize bo:(Er j U).2=L7 at *;have cl:=Hd (And.intro dk bo);have ee:Hid (∀m∈L7,∀x∈m,Iz g x):=Hd (by rw[<-bo];exact W3 bj bf.2);have ag:=Hd (show a6<=10000000/\i<=100000/\s<=100000 by omega);have e2:Hid (L7.length<=L.length+(s+1)/\a6+1<=nT+(s+1)/\L.length<=L7.length):=Hd mR;clear bq dk bo dy dz fc es ev h0;go_wp2_with fail
          go_region_law (first|(
                   go_simp;go_at_call 145;refine en.mono ?_;rintro e w7 ⟨rfl,fj,V7,D7,bz,b4⟩;have b2:=b9.PU (by rw[cl.2]at bz;exact bz) b4;obtain⟨w8,gf,dr,df⟩:=WR b2.tm ag.1 ag.2.1 ag.2.2 HJ.2.2;rw[cl.1];have z8:nQ w7 ⟨l,7,nK⟩=nJ (.map (nJ tb)):=by have h:=b2.BP.Ap.cell 7;rw[<-an.out]at h;exact h
                   have e8:=Hd (b9.Bu b4 (aa.later ((Below.refl _ w6).drew)));have cj:Hid (Ah w7 gb 58 #[nC J g.nt T,nC C g.nn P,nC I g.R.length R,nE nM g.s]):=Hd (b4.Ap (Ah.drew ad) (by
                    rintro(e|e|e)
                    ·exact Ah.Bh a2.BP.Ap ad mT e.symm
                    ·exact Dr a2.BP.map ad e
                    ·exact DL a2.BP.rows ad mT e))
                   have ak:=Hd b2;have ed:=Hd dr;have bc:=Hd df;clear b2 bz b4 dr df))
          all_goals go_wp2_with fail
          all_goals go_roundw
          all_goals first
           | exact⟨s+1,fj,V7,L7,D7,a6+1,_,t++[(s,jj)],mR,mY,Hd (ak.mapped bc ed ((ak.td.next ak.tm.isMap ag.2.1 ag.2.2).congr (fun a b=>by rw[<-ba.out];exact fU E t s jj (fun x p=>(ax.Fb x p).2) a b))),Hd (ak.Sm bc e8),bk,Hd (ax.add du jj),e2,ee,Hd ((Aj.of_map bc).Ap cj (Dr ak.tm cj))⟩
           | (simp[intOf];omega)
       · have dx:s=N:=by omega
         have f8:a7.length=N:=by rw[<-cu.out,lM,aa.len]
         have cw:Hid ((j,t)=Gz.FD a7 0 L []):=Hd (by have h:=cv.out;rw[List.drop_of_length_le mR,Gz.FD]at h;exact h);have ek:Hid (D1 t 1 N):=Hd (by rw[<-dx];exact ax);have et:j.length<=2000:=by have h:=eh.out;rw[<-cw.out]at h;exact h
         have bq:=a2.BP.len;have d9:¬((2000:Int)<(V'.length:Int)):=by omega
         obtain⟨fh,fi,fe⟩:=Mh a2.BP.rows (by have:=bh.out;have:=b5;have:=cm.out;omega);subst fe;have z5:nQ w6 ⟨l,5,nK⟩=nJ (nC (nJ ⟨fh,0,nK⟩) V'.length fi):=by have h:=a2.BP.Ap.cell 5;rw[<-an.out]at h;exact h
         have e4:Hid (g.Jd bg fu (i+1) j (E++[t])=nJ (Lf,Ef)):=Hd (by have h:=e3.out;rw[<-cw.out]at h;exact h);have e9:Hid ((E++[t]).length=i+1/\i+1<=j.length/\j.length<=2000/\a6<=1000*(i+1)/\1<=j.length):=Hd (by have h1:=bh.out;have h2:=bi.out;have h3:=cm.out;have h4:=ba.out;rw[BS,List.length_singleton];omega)
         have ef:Hid ((∀a8∈j,∀x∈a8,Iz g x)/\∀u∈E++[t],D1 u 1 N):=Hd ⟨bj,fun u hu=>by
          rcases mA.1 hu with h1|h1
          ·exact ah.2 u h1
          ·rw[mS.1 h1];exact ek⟩
         have g4:=bi.2.2;clear dx f8 et bq;go_wp2_with fail
         go_roundg fu
         case measure=>omega
         case rel=>exact⟨i+1,_,V',j,D',a6,au,E++[t],mY,a2,e4,e9,ef,ad⟩
   · obtain⟨rfl,rfl⟩:L=Lf/\E=Ef:=by
       have h:=b8.out;unfold Gz.Jd at h;rw[nG mR]at h;injection h with h;injection h with h1 h2;exact⟨h1,h2⟩
     have di:i=V.length:=by omega
     have b1:E.length=V.length:=by omega
     have HR:=Hd ah.2;have fp:=Hd ah.1;have br:=Ev.start HR;rw[b1]at br;have d1:=Hd br;have az:=Hd HS.aD;have f2:V.length<=2000:=by omega
     have cz:=Hd HS.td;have da:vv.cells=#[nC J g.nt T,nC C g.nn P,nC I g.R.length R,nE nM g.s]:=by rw[<-an.out];rfl
     rw[da]at az;have cn:=HN.out;rw[<-cn]at az;obtain⟨n,hn⟩:∃n,n=V.length:=⟨_,rfl⟩
     rw[<-hn]at az d1 f2 c5 b5 b1 di;have fm:=Hd b1;have g6:¬((i:Int)<(n:Int)):=by omega
     clear cn da br b1 di bm bp d5 ds dh d4 hn b5;go_wp2_with fail
     go_loopw [79] (fun ii wr=>∃(k:Nat) (V':List (nU×nU)) (ao:List (List It)),k<=n/\ii=nE nM k/\Hid (Gc w wr l tb (#[nC J g.nt T,nC C g.nn P,nC I g.R.length R,nE nM g.s]++#[nC (nJ ⟨gr,0,nK⟩) N N,nC (nJ ⟨sb,0,nK⟩) n sc,.map (nJ mb),.map (nJ tb)]) sb sc n V' L ao nT DT)/\Hid (Ev ao E n k 1)/\Hid (Ah wr gb 58 #[nC J g.nt T,nC C g.nn P,nC I g.R.length R,nE nM g.s])) (fun ii _=>n-(intOf ii).toNat)
     case atStart=>exact⟨0,V,_,A0 _,rfl,az,d1,be⟩
     case round=>
       obtain⟨k,V1,T1,g7,rfl,al,cp,bb⟩:=hrel;rename nS=>fk
       by_cases c8:k<n
       · go_wp2_with fail
         go_loopw [10] (fun ss wr=>∃(s:Nat) (V':List (nU×nU)) (ao:List (List It)),1<=s/\s<=N/\ss=nE nM s/\Hid (Gc w wr l tb (#[nC J g.nt T,nC C g.nn P,nC I g.R.length R,nE nM g.s]++#[nC (nJ ⟨gr,0,nK⟩) N N,nC (nJ ⟨sb,0,nK⟩) n sc,.map (nJ mb),.map (nJ tb)]) sb sc n V' L ao nT DT)/\Hid (Ev ao E n k s)/\Hid (Ah wr gb 58 #[nC J g.nt T,nC C g.nn P,nC I g.R.length R,nE nM g.s])) (fun ss _=>N-(intOf ss).toNat)
         case atStart=>exact⟨1,V1,T1,AF _,(by rw[HN.out];omega),rfl,al,cp,bb⟩
         case round=>
          obtain⟨s,V2,T2,du,fa,rfl,af,aw,a1⟩:=hrel;rename nS=>fl
          have x0:=Ah.cell a1 0;have x1:=Ah.cell a1 1;have x2:=Ah.cell a1 2;have x3:=Ah.cell a1 3;simp at x0 x1 x2 x3;have bl:=Hd (HT fl af.below);by_cases g9:s<N
          ·have dm:k<=100000:=by omega
           have dv:s<=100000:=by omega
           have fb:(s:Int)<=(g.top:Int):=by have:=HN.out;omega
           cases he:ER E k s with
           | none=>
            have HE:=Hd he;have ae:=Hd (aw.skip HR he);clear he;go_wp2_with (
                go_at_call 22;refine bl.mono ?_;rintro e a0 ⟨rfl,a4⟩
                have o:=Hd (af.later a4);have ab:=Hd (a1.below a4 a1.lt);have z7:nQ a0 ⟨l,7,nK⟩=nJ (.map (nJ tb)):=Ah.cell o.Ap 7;have ar:=Uq o.tm cz dm dv;rw[HE.out]at ar;simp only[Option.getD_none,Option.isSome_none]at ar;clear a4)
            go_roundw
            case rel=>exact⟨s+1,V2,T2,mR,mR,mY,o,ae,ab⟩
            case measure=>simp[intOf];omega
           | some ca=>
            have HE:=Hd he;have ae:=Hd (aw.add HR c8 he);have ey:=af.len;obtain⟨⟨iv,tv⟩,hV⟩:∃x,V2[k]?=nJ x:=⟨_,eG mR⟩
            obtain⟨tl,hT⟩:∃x,T2[k]?=nJ x:=⟨_,eG mR⟩
            have bt:T2.getD k []=tl:=by rw[dG,hT];rfl
            rw[bt]at ae;have gh:tl.length<=1000:=by have h:=aw.2.2 k c8;rw[if_neg mR,if_pos rfl,bt]at h;rw[h];have h1:=OI _ _ _ (Ks HR k);have h2:=List.length_filter_le (fun x:It=>decide (x.1<s)) (E.getD k []);unfold Jp;omega
            obtain⟨At,ct,e0⟩:=BH (af.trans k _ tl hV hT);simp only at e0;subst e0;have b0:=Hd hV;have d2:=Hd hT;have g8:(k:Int)<(n:Int):=by omega
            clear he ey hV hT bt;go_wp2_with (
                go_at_call 22;refine bl.mono ?_;rintro e a0 ⟨rfl,a4⟩
                have o:=Hd (af.later a4);have ab:=Hd (a1.below a4 a1.lt);have z7:nQ a0 ⟨l,7,nK⟩=nJ (.map (nJ tb)):=Ah.cell o.Ap 7;have z5:nQ a0 ⟨l,5,nK⟩=nJ (nC (nJ ⟨sb,0,nK⟩) n sc):=Ah.cell o.Ap 5;have ar:=Uq o.tm cz dm dv;rw[HE.out]at ar;simp only[Option.getD_some,Option.isSome_some]at ar;obtain⟨_,t1⟩:=LC o.rows b0;simp only at t1;have gj:sb<a0.heap.size:=World.block_lt_of_cell? a0 _ t1;have gl:l<a0.heap.size:=World.block_lt_of_cell? a0 _ z5;clear a4)
            have ai:=Hd (o.trans k _ tl b0 d2);go_region_law (
                 refine Fe Zb (.tmp 112) (.tmp 116) ?_ ?_ (base:=w.heap.size) (n:=tl.length) (m:=1) (N:=tl.length+1) (v:=nC At tl.length ct) (src:=nC (nJ ⟨a0.heap.size,0,nK⟩) 1 1) (xs:=tl.flatMap Bf) (news:=Bf (s,ca)) ?_ ?_ ?_ ?_ ?_ ?_ ?_ ?_ ?_
                 ·rfl
                 ·rfl
                 ·rfl
                 ·rfl
                 ·first|exact(AV ai ((Below.refl _ a0).drew)).alloc _|exact AV (ai.alloc _) ((Below.refl _ _).drew)
                 ·first|exact UM (s,ca) a0.drew|exact UM (s,ca) a0
                 ·rfl
                 ·unfold maxLen;omega
                 ·omega
                 ·have:=o.below.size;simp;omega
                 intro A3 c3 w3 r1 r2 r3;have eg:=Hd r1;have ei:=Hd r2;have ej:=Hd r3;have b3:Ah w3 l 240 (#[nC J g.nt T,nC C g.nn P,nC I g.R.length R,nE nM g.s]++#[nC (nJ ⟨gr,0,nK⟩) N N,nC (nJ ⟨sb,0,nK⟩) n sc,.map (nJ mb),.map (nJ tb)]):=by first|exact r2.Ap ((o.Ap.drew).alloc _) (.inr mT)|exact r2.Ap (Ah.drew (o.Ap.alloc _)) (.inr mT)
                 have fr:nQ w3 ⟨l,5,nK⟩=nJ (nC (nJ ⟨sb,0,nK⟩) n sc):=Ah.cell b3 5;have o3:w3.ownsRow w.heap.size 151 2 (nC (nJ ⟨sb,0,nK⟩) n sc) n (V2.flatMap E8):=by first|exact r2.own ((AV o.rows ((Below.refl _ a0).drew)).alloc _) (.inr mT)|exact r2.own (AV (o.rows.alloc _) ((Below.refl _ _).drew)) (.inr mT)
                 have q3:=(LC o3 b0).2;have f3:=GU o3 (k*2+1);have a9:Hid (Ah w3 gb 58 #[nC J g.nt T,nC C g.nn P,nC I g.R.length R,nE nM g.s]/\gb≠sb):=Hd (by
                  have de:Ah w3 gb 58 #[nC J g.nt T,nC C g.nn P,nC I g.R.length R,nE nM g.s]:=by first|exact r2.Ap ((ab.drew).alloc _) (.inr mT)|exact r2.Ap (Ah.drew (ab.alloc _)) (.inr mT)
                  refine⟨de,fun e=>DL o3 de mT (by rw[e];rfl)⟩)
                 simp only at q3;clear r1 r2 r3 b3 o3)
            all_goals go_wp2_with fail
            all_goals go_roundw
            all_goals first
             | (simp[intOf];omega)
             | (refine⟨s+1,_,_,mR,mR,mY,Hd (o.put b0 d2 ?_ eg ei ej),ae,Hd (a9.1.BC a9.2 _)⟩;exact⟨rfl,rfl,rfl,mV,fun k hk=>Below.heap_alloc a0 _ _ hk⟩)
          ·have dw:s=N:=by omega
           have fb:¬((s:Int)<=(g.top:Int)):=by have:=HN.out;omega
           have ae:Hid (Ev T2 E n (k+1) 1):=Hd ((by rw[<-dw];exact aw:Ev T2 E n k N).EL HR);clear dw;go_wp2_with (
               go_at_call 22;refine bl.mono ?_;rintro e a0 ⟨rfl,a4⟩
               have o:=Hd (af.later a4);have ab:=Hd (a1.below a4 a1.lt);clear a4)
           go_roundw
           case rel=>exact⟨k+1,V2,T2,mR,mY,o,ae,ab⟩
           case measure=>simp[intOf];omega
       · obtain rfl:k=n:=by omega
         have d0:=Hd cp.done;have z5:nQ fk ⟨l,5,nK⟩=nJ (nC (nJ ⟨sb,0,nK⟩) k sc):=Ah.cell al.Ap 5;go_wp2_with fail
         go_ret2
         refine⟨_,V1,rfl,?_,al.below⟩;rw[<-d0.out];refine al.aJ (al.GC (fun a8 hl=>(HS.BP.ok a8 hl).1) (fun t ht=>?_));rw[d0.out]at ht;have:=OI _ _ _ (HR t ht);omega
def dZ(C:GN w v g){f:Nat}{l j:List (List It)}(ha:g.J8 f=nJ (l,j)) :
  () 114 #[v] w fun e w'=>∃i V,e=nP (.tuple #[i,nE nM 0])/\Fu w' i V l j/\Below w w w':=by
 refine(RB C ha).mono ?_;rintro e w' ⟨i,V,o,p,t⟩;exact⟨i,V,o,p.GC,t⟩
def G3(l:List Nat):Nat:=l.foldl (fun S x=>S|||2 ^ x) 0
theorem l7(l:List Nat):∀(S j:Nat),(l.foldl (fun S x=>S|||2 ^ x) S).testBit j=(S.testBit j||decide (j∈l)):=by
 induction l with
 | nil=>intro S j;simp
 | cons x l o=>
  intro S j;rw[List.foldl_cons,o,Nat.testBit_or,Nat.testBit_two_pow];by_cases h:x=j
  ·subst h;simp
  ·have i:¬(j=x):=fun e=>h e.symm
   simp[h,i]
def YV(l:S<2 ^ n):G3 (Bq n S)=S:=by
 apply Nat.eq_of_testBit_eq;intro j;unfold G3;rw[l7,Nat.zero_testBit,Bool.false_or];unfold Bq;by_cases i:j<n
 ·cases o:S.testBit j<;>simp[i,o]
 ·rw[show S.testBit j=false from Lm l mR]
  simp[i]
def Xv{x:Nat}(h:x∈Bq n S):x<n:=by unfold Bq at h;exact List.mem_range.1 (List.mem_filter.1 h).1
def QZ{s:AH}(h:AU w s S):∃q:Int,() 195 #[s.v,nE nM 0] w (fun e w'=>e=nP q/\w'=w)/\(S=0->q<0)/\(S≠0->0<=q):=by
 refine⟨EU s.n S 0,Oy h (i0:=0) mR,fun e=>?_,fun e=>?_⟩
 ·subst e
  rw[LR (fun j _ _=>Nat.zero_testBit j)];decide
 ·rcases LS (n:=s.n) (S:=S) (s.n-0) 0 rfl with⟨m,l,_⟩|⟨_,o⟩
  ·rw[l];omega
  ·exfalso
   apply e;apply Nat.eq_of_testBit_eq;intro j;rw[Nat.zero_testBit];by_cases i:j<s.n
   ·exact o j (A0 _) i
   ·exact Lm h.fit mR
def P9{mb nt cT:Nat}{AT:Option Addr}{lv:nU}{l:List Nat}(h0:nQ w (mb,0)=nJ (nC AT nt cT))(ab:nt<=120)(hl:Bv w lv l)(hx:∀x∈l,x<=nt) :
  () 190 #[(mb,0),lv] w fun e w'=>∃h:AH,e=nP h.v/\h.n=nt+1/\w.heap.size<=h.h/\w.heap.size<=h.wb/\AU w' h (G3 l)/\Below w w w':=by
 have a6:Hid (() 192 #[nE nM ((nt:Int)+1)] w fun e w'=>e=nP (w.heap.size+1,0)/\AU w' ⟨w.heap.size+1,w.heap.size,nt+1⟩ 0/\Below w w w'):=Hd (LU (w:=w) (n:=nt+1) mR mR);obtain⟨⟨Al,cl,rfl,T⟩,hs,-⟩:=hl;have HC:=Hd T;have HX:=Hd hx;clear T hx;generalize a1:l.length=j at *;have I:=Hd a1;clear a1;go_enter func190,ntmps190
 go_wp2_with (
    go_at_call 192;refine a6.mono ?_;rintro e w1 ⟨rfl,a2,R⟩
    have a7:=Hd a2;have a4:=Hd R;clear a2 R)
 generalize hz:w.heap.size=z at *;have C:=Hd hz;clear hz;go_loopw [18] (fun ii wr=>∃k:Nat,k<=j/\ii=nE nM k/\Hid (AU wr ⟨z+1,z,nt+1⟩ (G3 (l.take k)))/\Hid (Below z w wr)) (fun ii _=>j-(intOf ii).toNat)
 case atStart=>exact⟨0,A0 _,rfl,Hd (by simpa [G3] using a7.out),a4⟩
 case round=>
  obtain⟨k,hk,rfl,p,o⟩:=hrel;by_cases a9:k<j
  ·obtain⟨x,i⟩:∃x,l[k]?=nJ x:=⟨_,eG (by rw[I.out];exact a9)⟩
   obtain⟨b,off,hA,P,a0⟩:=HC k x i;subst hA;have aa:nQ wr (b,off+k)=nJ (nE nM x):=(o.cell (p:=⟨b,off+k,nK⟩) P).trans a0;have ad:=HX x (mG i);have J:=Hd (Nt p (i:=x) (by show x<nt+1;omega));have t:Hid (G3 (l.take k)|||2 ^ x=G3 (l.take (k+1))):=Hd (by unfold G3;rw[LD (fun S x=>S|||2 ^ x) l 0 k x i]);unfold AH.v at J;clear i a0 P;go_wp2_with (
     go_at_call 150;refine J.mono ?_;rintro e w2 ⟨rfl,a3,U⟩
     have a8:=Hd a3;have a5:=Hd (o.trans (U.below (by have:=p.words.lt;show z<=wr.heap.size;have:z<wr.heap.size:=this;omega) (fun q hq e=>by have e2:q=z:=e;omega)));clear a3 U)
   go_roundw
   case rel=>exact⟨k+1,mR,mY,Hd (by rw[<-t.out];exact a8),a5⟩
   case measure=>simp[intOf];omega
  ·obtain rfl:k=j:=by omega
   have t:Hid (AU wr ⟨z+1,z,nt+1⟩ (G3 l)):=Hd (by have h:=p.out;rw[Dd (by rw[I.out];omega)]at h;exact h);go_wp2_with fail
   go_ret;exact⟨⟨z+1,z,nt+1⟩,rfl,rfl,by rw[C.out];show z<=z+1;omega,by rw[C.out];exact AF _,t,by rw[C.out];exact o⟩
def SY(w:nS)(l o:Nat)(j:AH)(f:Bool)(r:AZ×Bool)(e:Ending)(w':nS):Prop:=
 e=nP (nI r.2)/\∃i,Aj (fun k=>k=j.wb) w i/\AU i j r.1.set/\((w'=i/\r.1.self=f)\/(w'=i.setCell (l,o+2) (nI true)/\r.1.self=true))
def Aj.cell(l:Aj X w w')(i:b<w.heap.size)(o:¬X b)(j:Nat):w'.cell? (b,j)=nQ w (b,j):=World.cell?_of_block (l.block b i o)
def Aj.ML(l:Aj X w w')(i:b<w.heap.size)(o:¬X b)(j:Nat):w'.frozen? (b,j)=w.frozen? (b,j):=World.frozen?_of_block (l.block b i o)
def VD{c:AZ}(h:i=0):CD false i c own t=(c,false):=by unfold CD;rw[if_pos ⟨rfl,h⟩]
def SM{c:AZ}(h:¬(xs=false/\i=0)):CD xs i c own (S,false)=(⟨c.s,c.set|||S,c.self⟩,(c.set|||S) != c.set):=by unfold CD;rw[if_neg h,if_pos rfl]
def WX{c:AZ}(j:c.self=false):CD true i c own (S,true)=(⟨c.s,(c.set|||S)|||(if own then c.set|||S else i),true⟩,true):=by unfold CD;rw[if_neg mV,if_neg mV,if_pos ⟨rfl,j⟩]
def SR{c:AZ}(h:¬(xs=false/\i=0))(j:¬(xs=true/\c.self=false)):CD xs i c own (S,true)=(⟨c.s,(c.set|||S)|||(if own then c.set|||S else i),c.self⟩,(((c.set|||S)|||(if own then c.set|||S else i)) != (c.set|||S))||((c.set|||S) != c.set)):=by unfold CD;rw[if_neg h,if_neg mV,if_neg j]
def dN{mp:nU}{o sx s2:Nat}{p I l:AH}{f emp:Bool}{SX ST aa:Nat}(h1:AU w p SX)(h2:AU w I ST)(h3:AU w l aa)(n1:p.n=l.n)(n2:I.n=l.n)
  (ae:if own then p=l else p.wb≠l.wb) (bk:I.wb≠l.wb) (c1:nQ w (j,o+1)=nJ l.v) (c2:nQ w (j,o+2)=nJ (nI f)) (fz:w.frozen? (j,o+2)=false) (a7:j≠l.wb) :
  () 218 #[mp,.agg #[sx,p.v,nI xs],(j,o),.agg #[I.v,nI emp]] w (SY w j o l f (CD xs SX ⟨s2,aa,f⟩ own (ST,emp))):=by
 have a8:=World.block_lt_of_cell? w _ c1;have ad:=Hd (Ah.new w 301 #[sx,p.v,nI xs]);have a0:=Hd (Ah.new (w.alloc (nO #[sx,p.v,nI xs] 301)) 287 #[I.v,nI emp]);have HW:∃W,W=(w.alloc (nO #[sx,p.v,nI xs] 301)).alloc (nO #[I.v,nI emp] 287):=⟨_,rfl⟩
 have aq:Below w w ((w.alloc (nO #[sx,p.v,nI xs] 301)).alloc (nO #[I.v,nI emp] 287)):=(DE w _).trans ((DE _ _).mono mV);have C:=Hd aq;have an:=Hd (h1.later aq);have aw:=Hd (h2.later aq);have ao:=Hd (h3.later aq);have a9:=Hd (fun y (a:AU y l aa) (b:AU y I ST)=>G7 a b n2);have ah:=Hd (fun y (T:Nat) (a:AU y l T) (U:Nat) (b:AU y p U)=>G7 a b n1);have av:=Hd (fun y (a:AU y p SX)=>Oy a (i0:=0) mR);obtain⟨q,hq,ax,ay⟩:∃q:Int,EU p.n SX 0=q/\(SX=0->q<0)/\(SX≠0->¬q<0):=⟨_,rfl,fun e=>by
  subst e;rw[LR (fun az _ _=>Nat.zero_testBit az)];decide,fun e=>by
  rcases LS (n:=p.n) (S:=SX) (p.n-0) 0 rfl with⟨m,hm,_⟩|⟨_,hz⟩
  ·rw[hm];omega
  ·exfalso
   apply e;apply Nat.eq_of_testBit_eq;intro az;rw[Nat.zero_testBit];by_cases hj:az<p.n
   ·exact hz az (A0 _) hj
   ·exact Lm h1.fit mR⟩
 simp only[hq]at av;have bh:=h3.words.lt;have bb:p.h≠l.wb:=h1.head_ne h3;have a6:Hid (¬l.X w.heap.size/\¬l.X (w.heap.size+1)):=Hd ⟨fun e=>by have e2:w.heap.size=l.wb:=e;omega,fun e=>by have e2:w.heap.size+1=l.wb:=e;omega⟩;have ad:=Hd (ad.alloc (nO #[I.v,nI emp] 287));clear hq aq h1 h2 h3 HW a9 ah bh;cases xs with
 | false=>
  by_cases hz:SX=0
  ·rw[VD hz]
   have bf:=ax hz;clear ax ay;unfold AH.v at *;go_enter func218,ntmps218
   go_wp2_with (go_at_call 195;refine(av _ an).mono ?_;rintro e w1 ⟨rfl,rfl⟩)
   go_ret;exact⟨rfl,_,Aj.AJ C,ao,.inl ⟨rfl,rfl⟩⟩
  ·have bf:=ay hz
   clear ax ay;obtain⟨T,hT⟩:∃T,aa|||ST=T:=⟨_,rfl⟩
   obtain⟨b1,aj⟩:∃b,(T != aa)=b:=⟨_,rfl⟩
   have a9:=Hd (fun y (a:AU y l aa) (b:AU y I ST)=>G7 a b n2);simp only[hT,aj]at a9;have HT:=Hd (And.intro hT aj);clear hT aj;cases emp with
   | false=>
    rw[SM (fun h=>hz h.2)];simp only;rw[HT.1,HT.2];unfold AH.v at *;go_enter func218,ntmps218
    go_upto_region 3 with(go_at_call 195;refine(av _ an).mono ?_;rintro e w1 ⟨rfl,rfl⟩)
    generalize hW:(w.alloc (nO #[sx,(p.h,0),nI false] 301)).alloc (nO #[(I.h,0),nI false] 287)=W at *;have c1:=(C.cell (p:=⟨j,o+1,nK⟩) a8).trans c1;have z0:=Ah.cell a0 0;have z1:=Ah.cell a0 1;have zl:=Ah.lt a0;simp at z0 z1 zl;have ag:=Hd (Aj.AJ (X:=fun k=>k=l.wb) C);generalize a5:w.heap.size=J at *;have b5:=Hd a5;clear hW a5;go_region_law (first|(
        go_simp;go_at_call 197;refine(a9 _ (ao.later ((Below.refl _ W).drew)) (aw.later ((Below.refl _ W).drew))).mono ?_;rintro e t ⟨rfl,R,i⟩;have ba:=(i.cell (b:=J+1) (w:=W.drew) zl (a6.2) 1).trans z1;have ai:=Hd R;have af:=Hd i;clear R i))
    all_goals go_wp2_with fail
    all_goals go_ret
    all_goals exact⟨rfl,t,ag.next ((Aj.AJ ((Below.refl _ W).drew)).next af),ai,.inl ⟨rfl,rfl⟩⟩
   | true=>
    obtain⟨U,P⟩:∃U,(if own then T else SX)=U:=⟨_,rfl⟩
    obtain⟨b2,ak⟩:∃b,(T|||U != T)=b:=⟨_,rfl⟩
    have ah:=Hd (fun y (a:AU y l T) (b:AU y p U)=>G7 a b n1);simp only[ak]at ah;have HU:Hid (∀y y',AU y p SX->AU y' l T->Aj l.X y y'->AU y' p U):=Hd (fun y y' a1 a2 a3=>by
     cases own with
     | true=>rw[if_pos rfl]at P ae;rw[<-P,ae];exact a2
     | false=>rw[if_neg mV]at P ae;rw[<-P];exact a1.Ay a3 bb ae)
    have al:=Hd (And.intro P ak);clear P ak;cases b2<;>cases f
    all_goals (
     rw[SR (fun h=>hz h.2) mV];simp only;rw[HT.1,al.1];rw[al.2,HT.2];unfold AH.v at *;go_enter func218,ntmps218
     go_upto_region 3 with(go_at_call 195;refine(av _ an).mono ?_;rintro e w1 ⟨rfl,rfl⟩)
     generalize hW:(w.alloc (nO #[sx,(p.h,0),nI false] 301)).alloc (nO #[(I.h,0),nI true] 287)=W at *;have c1:=(C.cell (p:=⟨j,o+1,nK⟩) a8).trans c1;have c2:=(C.cell (p:=⟨j,o+2,nK⟩) a8).trans c2;have fz:=(World.frozen?_of_block (a:=⟨j,o+2,nK⟩) (C.block j a8)).trans fz;have ab:j<W.heap.size:=AK a8 C.size;have z0:=Ah.cell a0 0;have z1:=Ah.cell a0 1;have zl:=Ah.lt a0;have y1:=Ah.cell ad 1;have y2:=Ah.cell ad 2;have yl:=Ah.lt ad;simp at z0 z1 zl y1 y2
     have ag:=Hd (Aj.AJ (X:=fun k=>k=l.wb) C);generalize a5:w.heap.size=J at *;have b5:=Hd a5;clear hW a5;go_region_law (first|(
         go_simp;go_at_call 197;refine(a9 _ (ao.later ((Below.refl _ W).drew)) (aw.later ((Below.refl _ W).drew))).mono ?_;rintro e t ⟨rfl,R,i⟩;have b3:=Hd (HU _ _ (an.later ((Below.refl _ W).drew)) R i);have ba:=(i.cell (b:=J+1) (w:=W.drew) zl (a6.2) 1).trans z1;have bi:=(i.cell (b:=J) (w:=W.drew) yl (a6.1) 1).trans y1;have b8:=(i.cell (b:=J) (w:=W.drew) yl (a6.1) 2).trans y2;have bc:=(i.cell (b:=j) (w:=W.drew) ab a7 (o+1)).trans c1;have b6:=(i.cell (b:=j) (w:=W.drew) ab a7 (o+2)).trans c2;have b7:=(i.ML (b:=j) (w:=W.drew) ab a7 (o+2)).trans fz
         have b9:J<t.heap.size:=AK yl i.size;have au:j<t.heap.size:=AK ab i.size;have ai:=Hd R;have af:=Hd i;clear R i))
     all_goals go_upto_region 6 with fail
     all_goals (
      first|(go_region_law (first|(
           go_simp;go_at_call 197;refine(ah _ (ai.later ((Below.refl _ t).drew)) (b3.later ((Below.refl _ t).drew))).mono ?_;rintro e w5 ⟨rfl,ar,a4⟩;have bj:=(a4.cell (b:=J) (w:=t.drew) b9 (a6.1) 2).trans b8;have bd:=(a4.cell (b:=j) (w:=t.drew) au a7 (o+2)).trans b6;have be:=(a4.ML (b:=j) (w:=t.drew) au a7 (o+2)).trans b7;have b4:=Hd ar;have b0:=Hd a4;clear ar a4)))|fail)
     all_goals go_wp2_with fail
     all_goals go_ret
     all_goals exact⟨by first|rfl|exact Od mV,w5,ag.next ((Aj.AJ ((Below.refl _ W).drew)).next (af.next ((Aj.AJ ((Below.refl _ t).drew)).next b0))),b4,.inl ⟨rfl,rfl⟩⟩)
 | true=>
  clear ax ay;obtain⟨T,hT⟩:∃T,aa|||ST=T:=⟨_,rfl⟩
  obtain⟨b1,aj⟩:∃b,(T != aa)=b:=⟨_,rfl⟩
  have a9:=Hd (fun y (a:AU y l aa) (b:AU y I ST)=>G7 a b n2);simp only[hT,aj]at a9;have HT:=Hd (And.intro hT aj);clear hT aj;cases emp with
  | false=>
   rw[SM mV];simp only;rw[HT.1,HT.2];unfold AH.v at *;go_enter func218,ntmps218
   go_upto_region 3 with fail
   generalize hW:(w.alloc (nO #[sx,(p.h,0),nI true] 301)).alloc (nO #[(I.h,0),nI false] 287)=W at *;have c1:=(C.cell (p:=⟨j,o+1,nK⟩) a8).trans c1;have z0:=Ah.cell a0 0;have z1:=Ah.cell a0 1;have zl:=Ah.lt a0;simp at z0 z1 zl;have ag:=Hd (Aj.AJ (X:=fun k=>k=l.wb) C);generalize a5:w.heap.size=J at *;have b5:=Hd a5;clear hW a5;go_region_law (first|(
       go_simp;go_at_call 197;refine(a9 _ (ao.later ((Below.refl _ W).drew)) (aw.later ((Below.refl _ W).drew))).mono ?_;rintro e t ⟨rfl,R,i⟩;have ba:=(i.cell (b:=J+1) (w:=W.drew) zl (a6.2) 1).trans z1;have ai:=Hd R;have af:=Hd i;clear R i))
   all_goals go_wp2_with fail
   all_goals go_ret
   all_goals exact⟨rfl,t,ag.next ((Aj.AJ ((Below.refl _ W).drew)).next af),ai,.inl ⟨rfl,rfl⟩⟩
  | true=>
   obtain⟨U,P⟩:∃U,(if own then T else SX)=U:=⟨_,rfl⟩
   obtain⟨b2,ak⟩:∃b,(T|||U != T)=b:=⟨_,rfl⟩
   have ah:=Hd (fun y (a:AU y l T) (b:AU y p U)=>G7 a b n1);simp only[ak]at ah;have HU:Hid (∀y y',AU y p SX->AU y' l T->Aj l.X y y'->AU y' p U):=Hd (fun y y' a1 a2 a3=>by
    cases own with
    | true=>rw[if_pos rfl]at P ae;rw[<-P,ae];exact a2
    | false=>rw[if_neg mV]at P ae;rw[<-P];exact a1.Ay a3 bb ae)
   have al:=Hd (And.intro P ak);clear P ak;cases b2<;>cases f
   all_goals (
    first|rw[WX rfl]|rw[SR mV mV]
    simp only;first|(rw[HT.1,al.1];rw[al.2,HT.2])|rw[HT.1,al.1]
    unfold AH.v at *;go_enter func218,ntmps218
    go_upto_region 3 with fail
    generalize hW:(w.alloc (nO #[sx,(p.h,0),nI true] 301)).alloc (nO #[(I.h,0),nI true] 287)=W at *;have c1:=(C.cell (p:=⟨j,o+1,nK⟩) a8).trans c1;have c2:=(C.cell (p:=⟨j,o+2,nK⟩) a8).trans c2;have fz:=(World.frozen?_of_block (a:=⟨j,o+2,nK⟩) (C.block j a8)).trans fz;have ab:j<W.heap.size:=AK a8 C.size;have z0:=Ah.cell a0 0;have z1:=Ah.cell a0 1;have zl:=Ah.lt a0;have y1:=Ah.cell ad 1;have y2:=Ah.cell ad 2;have yl:=Ah.lt ad;simp at z0 z1 zl y1 y2
    have ag:=Hd (Aj.AJ (X:=fun k=>k=l.wb) C);generalize a5:w.heap.size=J at *;have b5:=Hd a5;clear hW a5;go_region_law (first|(
        go_simp;go_at_call 197;refine(a9 _ (ao.later ((Below.refl _ W).drew)) (aw.later ((Below.refl _ W).drew))).mono ?_;rintro e t ⟨rfl,R,i⟩;have b3:=Hd (HU _ _ (an.later ((Below.refl _ W).drew)) R i);have ba:=(i.cell (b:=J+1) (w:=W.drew) zl (a6.2) 1).trans z1;have bi:=(i.cell (b:=J) (w:=W.drew) yl (a6.1) 1).trans y1;have b8:=(i.cell (b:=J) (w:=W.drew) yl (a6.1) 2).trans y2;have bc:=(i.cell (b:=j) (w:=W.drew) ab a7 (o+1)).trans c1;have b6:=(i.cell (b:=j) (w:=W.drew) ab a7 (o+2)).trans c2;have b7:=(i.ML (b:=j) (w:=W.drew) ab a7 (o+2)).trans fz
        have b9:J<t.heap.size:=AK yl i.size;have au:j<t.heap.size:=AK ab i.size;have ai:=Hd R;have af:=Hd i;clear R i))
    all_goals go_upto_region 6 with fail
    all_goals (
     first|(go_region_law (first|(
          go_simp;go_at_call 197;refine(ah _ (ai.later ((Below.refl _ t).drew)) (b3.later ((Below.refl _ t).drew))).mono ?_;rintro e w5 ⟨rfl,ar,a4⟩;have bj:=(a4.cell (b:=J) (w:=t.drew) b9 (a6.1) 2).trans b8;have bd:=(a4.cell (b:=j) (w:=t.drew) au a7 (o+2)).trans b6;have be:=(a4.ML (b:=j) (w:=t.drew) au a7 (o+2)).trans b7;have b4:=Hd ar;have b0:=Hd a4;clear ar a4)))|fail)
    all_goals go_wp2_with fail
    all_goals go_ret
    all_goals exact⟨by first|rfl|exact Od mV,w5,ag.next ((Aj.AJ ((Below.refl _ W).drew)).next (af.next ((Aj.AJ ((Below.refl _ t).drew)).next b0))),b4,by first|exact .inl ⟨rfl,rfl⟩|exact .inr ⟨rfl,rfl⟩⟩)
theorem U7{p:Nat->Prop}(h:∃n,p n):∃n,p n/\∀m,p m->n<=m:=by
 obtain⟨n,o⟩:=h;induction n using Nat.strongRecOn with
 | _ n C=>
  by_cases l:∃m,m<n/\p m
  ·obtain⟨m,j,t⟩:=l
   exact C m j t
  ·exact⟨n,o,fun m j=>by
    rcases Nat.lt_or_ge m n with i|i
    ·exact absurd ⟨m,i,j⟩ l
    ·exact i⟩
theorem Tr{l:Nat}{i:Act->nS->Prop}(j:∀a w,J a w->i a w):∀(e:Exit) (a:Act) (w:nS),Exit.jump l J Q e a w->Exit.jump l i Q e a w:=by
 intro e a w h;cases e with
 | goto o=>exact⟨h.1,j _ _ h.2⟩
 | _=>exact h
def SL{l:Nat}{a:Act}(h:J a w):Exit.jump l J Q (.goto l) a w:=⟨rfl,h⟩
def Vd{P:Program}{c rest:Code}{a:Act}(l:Nat)(J:Nat->Act->nS->Prop)(I:findLabel c l=nJ (Code.skip.seq rest))
  (pass:∀n a w,J n a w->rest.wp P (Exit.jump l (fun i w'=>∃m,m<n/\J m i w') Q) a w)
  (first:(∀n a w,J n a w->rest.wp P (Exit.jump l (fun i w'=>∃m,J m i w') Q) a w)->c.wp P (Exit.jump l (fun i w'=>∃m,J m i w') Q) a w):(Code.scope c).wp P Q a w:=by
 classical
 have j:∃o:Act->nS->Nat,∀a w,(∃n,J n a w)->J (o a w) a w/\∀m,J m a w->o a w<=m:=
  ⟨fun a w=>if h:∃n,J n a w then Classical.choose (U7 h) else 0,fun a w h=>by simp only[dif_pos h];exact Classical.choose_spec (U7 h)⟩
 obtain⟨o,j⟩:=j;refine wp_scope_jumps l (fun a w=>∃n,J n a w) o I (first fun n a w h=>Code.wp_mono (Tr fun i w' ⟨m,_,t⟩=>⟨m,t⟩) (pass n a w h)) ?_;intro a w h;refine wp_seq (wp_skip ?_);obtain⟨C,R⟩:=j a w h;show rest.wp P _ a w;exact Code.wp_mono (Tr fun i w' ⟨m,t,p⟩=>⟨⟨m,p⟩,Nat.lt_of_le_of_lt ((j i w' ⟨m,p⟩).2 m p) t⟩) (pass _ a w C)
def BX(A:Nat->Prop)(w:nS)(v:nU)(l:List Nat):Prop:=Bv w v l/\∀b,v.ownBlock=nJ b->0<l.length->A b
def BX.Ay{l:List Nat}(h:BX A w v l)(o:Aj X w w')(P:∀b,A b->¬X b):BX A w' v l:=by obtain⟨⟨⟨I,c,t,R⟩,hs,U⟩,j⟩:=h;refine⟨⟨⟨I,c,t,fun k x C=>?_⟩,hs,U⟩,j⟩;obtain⟨b,off,i,p,T⟩:=R k x C;have hk:=(sG.1 C).1;have J:=P b (j b (by rw[t,i];rfl) mR);exact⟨b,off,i,AK p o.size,(o.cell p J _).trans T⟩
def BX.at_{i:Option Addr}{l:List Nat}(h:BX A w (nC i n c) l){x:Nat}(o:l[k]?=nJ x):∃b off,i=nJ ⟨b,off,nK⟩/\A b/\b<w.heap.size/\nQ w ⟨b,off+k,nK⟩=nJ (nE nM x):=by
 obtain⟨⟨⟨P,R,J,t⟩,hs,U⟩,p⟩:=h;cases J
 obtain⟨b,off,j,I,C⟩:=t k x o;have T:=(sG.1 o).1;exact⟨b,off,j,p b (by rw[j];rfl) mR,I,C⟩
def BX.shape{l:List Nat}(h:BX A w v l):∃i c,v=nC i l.length c:=by obtain⟨⟨⟨i,c,j,_⟩,_,_⟩,_⟩:=h;exact⟨i,c,j⟩
def IM(A:Nat->Prop)(w:nS)(h:AH)(S:Nat):Prop:=AU w h S/\A h.h/\A h.wb
def IM.Ay{h:AH}(i:IM A w h S)(l:Aj X w w')(j:∀b,A b->¬X b):IM A w' h S:=⟨i.1.Ay l (j _ i.2.1) (j _ i.2.2),i.2⟩
def Bo(A:Nat->Prop)(w:nS)(v:nU)(n:Nat)(sz:Nat)(f:Nat->Nat->nU->Prop):Prop:=
 ∃i c,v=nC i n c/\n<=c/\n<=1000000/\∀k,k<n->∃b off,i=nJ ⟨b,off,nK⟩/\A b/\b<w.heap.size/\∀j,j<sz->∃x,nQ w ⟨b,off+k*sz+j,nK⟩=nJ x/\f k j x
def Bo.Ay{sz:Nat}{f f':Nat->Nat->nU->Prop}(h:Bo A w v n sz f)(l:Aj X w w')(P:∀b,A b->¬X b)(T:∀k j x,k<n->j<sz->f k j x->f' k j x):Bo A w' v n sz f':=by obtain⟨C,c,hv,hn,U,hr⟩:=h;refine⟨C,c,hv,hn,U,fun k p=>?_⟩;obtain⟨b,off,R,i,t,hx⟩:=hr k p;refine⟨b,off,R,i,AK t l.size,fun j o=>?_⟩;obtain⟨x,I,J⟩:=hx j o;exact⟨x,(l.cell t (P b i) _).trans I,T k j x p o J⟩
def Dl(A:Nat->Prop)(w:nS)(v:nU)(n:Nat)(f:Nat->List Nat):Prop:=Bo A w v n 1 (fun k _ x=>BX A w x (f k))
def Dl.Ay(h:Dl A w v n f)(l:Aj X w w')(i:∀b,A b->¬X b):Dl A w' v n f:=Bo.Ay h l i (fun k j x _ _ o=>o.Ay l i)
def Dl.at_(h:Dl A w v n f)(t:k<n):∃b off c i c2,v=nC (nJ ⟨b,off,nK⟩) n c/\b<w.heap.size/\nQ w ⟨b,off+k,nK⟩=nJ (nC i (f k).length c2)/\BX A w (nC i (f k).length c2) (f k):=by obtain⟨i,c,J,hn,U,I⟩:=h;obtain⟨b,off,p,T,C,R⟩:=I k t;obtain⟨x,j,l⟩:=R 0 mR;obtain⟨o,c2,P⟩:=l.shape;subst P;refine⟨b,off,c,o,c2,by rw[J,p],C,?_,l⟩;rw[Nat.mul_one,Nat.add_zero]at j;exact j
def Fi(A:Nat->Prop)(w:nS)(m:Nat)(v:nU)(l:List (Nat×Bool)):Prop:=
 Bo A w v l.length 2 (fun d j x=>if j=0 then ∃h:AH,x=h.v/\h.n=m/\IM A w h (l.getD d (0,false)).1 else x=nI (l.getD d (0,false)).2)
def Fi.Ay(h:Fi A w m v l)(t:Aj X w w')(p:∀b,A b->¬X b):Fi A w' m v l:=Bo.Ay h t p (fun k j x _ _ o=>by
 split at o
 ·rename_i i
  rw[if_pos i];obtain⟨h,C,I,J⟩:=o;exact⟨h,C,I,J.Ay t p⟩
 ·rename_i i
  rw[if_neg i];exact o)
def FY(A:Nat->Prop)(w:nS)(m:Nat)(v:nU)(n:Nat)(T:List (List (Nat×Bool))):Prop:=Bo A w v n 1 (fun k _ x=>Fi A w m x (T.getD k []))
def FY.Ay(h:FY A w m v n T)(l:Aj X w w')(i:∀b,A b->¬X b):FY A w' m v n T:=Bo.Ay h l i (fun k j x _ _ o=>o.Ay l i)
def Fi.at_(h:Fi A w m v l){d:Nat}(C:l[d]?=nJ t):∃b off c,∃i:AH,v=nC (nJ ⟨b,off,nK⟩) l.length c/\(A b/\b<w.heap.size)/\nQ w ⟨b,off+d*2,nK⟩=nJ i.v/\nQ w ⟨b,off+d*2+1,nK⟩=nJ (nI t.2)/\i.n=m/\IM A w i t.1:=by
 obtain⟨R,a1⟩:=sG.1 C;have T:l.getD d (0,false)=t:=by rw[dG,C];rfl
 obtain⟨Ad,c,hv,hn,hm,hr⟩:=h;obtain⟨b,off,J,P,U,I⟩:=hr d R;obtain⟨x0,h0,i,rfl,a0,p⟩:=I 0 mR;obtain⟨x1,o,j⟩:=I 1 mR;have j:x1=nI (l.getD d (0,false)).2:=j;rw[T]at p j;exact⟨b,off,c,i,by rw[hv,J],⟨P,U⟩,h0,by rw[j]at o;exact o,a0,p⟩
def Fi.shape(h:Fi A w m v l):∃i c,v=nC i l.length c:=by obtain⟨i,c,j,_⟩:=h;exact⟨i,c,j⟩
def FY.at_(h:FY A w m v n T)(p:k<n):∃b off c x,v=nC (nJ ⟨b,off,nK⟩) n c/\(A b/\b<w.heap.size)/\nQ w ⟨b,off+k,nK⟩=nJ x/\Fi A w m x (T.getD k []):=by obtain⟨P,c,I,U,R,C⟩:=h;obtain⟨b,off,l,o,t,J⟩:=C k p;obtain⟨x,i,j⟩:=J 0 mR;refine⟨b,off,c,x,by rw[I,l],⟨o,t⟩,?_,j⟩;rw[Nat.mul_one,Nat.add_zero]at i;exact i
def DZ(A:Nat->Prop)(w:nS)(m:Nat)(v:nU)(l:List AZ):Prop:=
 Bo A w v l.length 3 (fun d j x=>if j=0 then x=nE nM ((l.getD d ⟨0,0,false⟩).s:Nat) else if j=1 then ∃h:AH,x=h.v/\h.n=m/\IM A w h (l.getD d ⟨0,0,false⟩).set else x=nI (l.getD d ⟨0,0,false⟩).self)
def DZ.Ay{l:List AZ}(h:DZ A w m v l)(C:Aj X w w')(t:∀b,A b->¬X b):DZ A w' m v l:=Bo.Ay h C t (fun k j x _ _ i=>by
 split at i
 ·rename_i o
  rw[if_pos o];exact i
 ·rename_i o
  rw[if_neg o];split at i
  ·rename_i p
   rw[if_pos p];obtain⟨h,I,J,P⟩:=i;exact⟨h,I,J,P.Ay C t⟩
  ·rename_i p
   rw[if_neg p];exact i)
def Jh(A:Nat->Prop)(w:nS)(m:Nat)(v:nU)(n:Nat)(i:List (List AZ)):Prop:=Bo A w v n 1 (fun k _ x=>DZ A w m x (i.getD k []))
def Jh.Ay{i:List (List AZ)}(h:Jh A w m v n i)(o:Aj X w w')(l:∀b,A b->¬X b):Jh A w' m v n i:=Bo.Ay h o l (fun k j x _ _ p=>p.Ay o l)
def Old(n:Nat)(b:Nat):Prop:=b<n
