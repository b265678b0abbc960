/- . -/
import Derived.Test.YtendpobbjjaopaaGreatDoorXaq
import Derived.Test.YtendpobbjjaopaaGreatDoorXan
import Derived.WideKeyPair
import Derived.ScopeJumps
import Derived.WalkMore
set_option linter.all false
set_option maxRecDepth 100000
set_option maxHeartbeats 16000000
namespace Go.Proofs.YtendpobbjjaopaaGreatDoor
open Go.RowKit Go.Proofs.Tryz
open Value renaming slice→oG,int→oH,bool→oK
open Option renaming some→oM,none→oN
open IntKind renaming i64→oO
open Obj renaming cells→oP
open Ending renaming returned→oQ
open World renaming cell?→oT
open Go renaming World→oU,Value→oV
variable{C S c s:Nat}{o:oV}{J:Act->oU->Prop}{A X:Nat->Prop}{w':oU}{own xs:Bool}{f:Nat->List Nat}{Q:Exit->Act->oU->Prop}
section
open Go.Maps (IsMap)
def B8.lay{w:oU}{B g n:Nat}{R:List (oV×List It)}(h:B8 w B g n c R)(T:∀(k:Nat) (x:oV×List It),R[k]?=oM x->∀b,x.1.ownBlock=oM b->b<C)(hs:s<n){nv:oV}{l:List It}
  (P:w.ownsRow C 220 2 nv l.length (l.flatMap Bg)) (a3:B<=C):B8 (w.setCell (g,s) nv) B g n c (R.set s (nv,l)):=by
 have a5:=h.len;obtain⟨a4,a0⟩:=h.Aj;have U:Am (·=g) w (w.setCell (g,s) nv):=Am.set (X:=(·=g)) (Am.refl _ w) (p:=⟨g,s,oN⟩) (.inr rfl) _;refine⟨?_,?_,?_⟩
 ·have:=Ge h.row s nX nv
  rw[List.map_set];exact this
 ·intro k y t
  by_cases p:k=s
  ·subst p
   rw[tG nX]at t;cases t
   exact U.own (EN P a3) (FB P a0 nY)
  ·rw[uG (fun e=>p e.symm)]at t
   have a2:=h.own k y t;exact U.own a2 (FB a2 a0 nY)
 ·intro i j a b ha o a1 k I J
  have hn:∀k,nv.ownBlock=oM k->C<=k:=fun k p=>(B6 P k p).2
  by_cases hi:i=s
  ·subst hi
   rw[tG nX]at ha;cases ha
   rw[uG a1]at o;have h1:=hn k I;have h2:=T j b o k J;omega
  ·rw[uG (fun e=>hi e.symm)]at ha
   by_cases hj:j=s
   ·subst hj
    rw[tG nX]at o;cases o
    have h1:=hn k J;have h2:=T i a ha k I;omega
   ·rw[uG (fun e=>hj e.symm)]at o
    exact h.apart i j a b ha o a1 k I J
structure FI(w0 w wr:oU)(bb gr N:Nat)(v sv:oV)(mb tb:Nat)(R:List (oV×List It)):Prop where
 AA:Am (·=bb) w wr
 Aj:Ah wr bb 203 (v.cells++#[oG (oM ⟨gr,0,oN⟩) N N,sv,.map (oM mb),.map (oM tb)])
 AM:B8 wr w.heap.size gr N N R
def FI.later{p w wr w2:oU}{j l N:Nat}{v:oV}{mb tb:Nat}{R:List (oV×List It)}(h:FI p w wr j l N v o mb tb R)(i:Below wr wr w2):FI p w w2 j l N v o mb tb R:=
 ⟨h.AA.next (Am.AJ i),h.Aj.below i h.Aj.lt,h.AM.later i⟩
def FI.below{i w wr:oU}{j o N:Nat}{v p:oV}{mb tb:Nat}{R:List (oV×List It)}(h:FI i w wr j o N v p mb tb R)(l:Below i i w)(h0:i.heap.size<=j):Below i i wr:=
 l.trans (h.AA.below l.size (fun k t e=>by omega))
theorem FI.bg{i w wr:oU}{l p N:Nat}{v I:oV}{mb tb:Nat}{R:List (oV×List It)}{g:Gz}(h:FI i w wr l p N v I mb tb R)(t:Below i i w)(h0:i.heap.size<=l)(o:GN i v g):BG wr l v g:=by
 refine⟨o.later (h.below t h0),fun j C=>?_⟩;obtain⟨T,cT,J,U,P,cR,rfl,-,-⟩:=o.open_;rw[h.Aj.cell]
 match j,C with
 | 0,_=>rfl
 | 1,_=>rfl
 | 2,_=>rfl
 | 3,_=>rfl
def FI.cells{w0 w wr:oU}{i I N:Nat}{v sv:oV}{mb tb:Nat}{R:List (oV×List It)}{o j l:Option Addr}{nt T P p t:Nat}{J:oV}(U:v=.agg #[oG o nt C,oG j T p,oG l P t,J])(h:FI w0 w wr i I N v sv mb tb R) :
  oT wr (i,0)=oM (oG o nt C)/\oT wr (i,1)=oM (oG j T p)/\oT wr (i,2)=oM (oG l P t)/\oT wr (i,3)=oM J/\oT wr (i,4)=oM (oG (I,0) N N):=by
 subst U;have h:=h.Aj.cell;exact⟨h 0,h 1,h 2,h 3,h 4⟩
structure DH(w2 wr:oU)(mm n:Nat)(tv av:oV)(todo M:List Nat)(all:List It)(D:DataW Unit):Prop where
 below:Below w2 w2 wr
 todo:Cd wr w2.heap.size 3 1 tv todo.length (todo.map AY)
 all:wr.ownsRow w2 220 2 av all.length (all.flatMap Bg)
 map:JA wr mm n D
 met:Im D M
 lo:w2.heap.size<=mm
 La:n<=M.length
def DH.later{w2 wr p:oU}{l n:Nat}{tv j:oV}{o M:List Nat}{all:List It}{D:DataW Unit}(h:DH w2 wr l n tv j o M all D)(i:Below wr wr p):DH w2 p l n tv j o M all D:=
 ⟨h.below.trans (i.mono h.below.size),h.todo.below i,AU h.all i,(Am.AJ (X:=fun _=>False) i).map h.map id,h.met,h.lo,h.La⟩
def DH.mapped{w2 wr l:oU}{i n:Nat}{tv p:oV}{t M:List Nat}{all:List It}{D:DataW Unit}(h:DH w2 wr i n tv p t M all D)(I:JA l i (n+1) (D.put (Cq s) (.lit (.bool true))))(C:wr.grownBy l (oM i)):DH w2 l i (n+1) tv p t (s::M) all (D.put (Cq s) (.lit (.bool true))):=by have o:Am (·=i) wr l:=Am.of_map C;exact⟨h.below.trans (o.below h.below.size (fun k P e=>by have:=h.lo;omega)),h.todo.AA (X:=fun _=>True) (fun g J j _=>o.Aj j (Dl h.map j)),o.own h.all (fun b j=>Hm h.map h.all b j),I,h.met.next h.map.isMap s,h.lo,by have:=h.La;simp;omega⟩
def DH.added{w2 wr l:oU}{p n:Nat}{tv t:oV}{i M:List Nat}{all:List It}{D:DataW Unit}(h:DH w2 wr p n tv o i M all D)(C:Cd l w2.heap.size 3 1 t (i.length+1) (i.map AY++[oH oO s]))(j:AI w2 [3] wr l):DH w2 l p n t o (i++[s]) M all D:=
 ⟨h.below.trans (j.below h.below.size),by rw[BB,Cb];exact C,j.own h.all (.inr nY),j.map h.map,h.met,h.lo,h.La⟩
def DH.grown{w2 wr j:oU}{p n:Nat}{tv C:oV}{t M:List Nat}{all l:List It}{D:DataW Unit}(h:DH w2 wr p n tv C t M all D)(I:j.ownsRow w2 220 2 o (all.length+l.length) (all.flatMap Bg++l.flatMap Bg))(i:AI w2 [220] wr j):DH w2 j p n tv o t M (all++l) D:=
 ⟨h.below.trans (i.below h.below.size),h.todo.keeps i nY,by rw[List.flatMap_append,Cb];exact I,i.map h.map,h.met,h.lo,h.La⟩
def DH.LN{w2 wr:oU}{l n s:Nat}{j:oV}{A:Option Addr}{i M:List Nat}{all:List It}{D:DataW Unit}(h:DH w2 wr l n (oG A (i.length+1) c) j (s::i) M all D)(p:Cd wr w2.heap.size 3 1 o i.length (i.map AY)):DH w2 wr l n o j i M all D:=
 ⟨h.below,p,h.all,h.map,h.met,h.lo,h.La⟩
end
variable{N:Nat}
def Ib:El Tryz.prog 22 3 1 8:=El.of (z:=oH oO 0) underlying22 nZ rfl nY
def Yr(g:Gz)(T M:List Nat)(x:It)(s:Nat)(l:g.next x=s)(i:g.BW s=true)(j:s ∉ M):g.I8 (T,M) x=(T++[s],s::M):=by unfold Gz.I8;rw[l,if_pos ⟨i,j⟩]
def Tr(g:Gz)(T M:List Nat)(x:It)(s:Nat)(l:g.next x=s)(h:g.BW s=false\/s∈M):g.I8 (T,M) x=(T,M):=by
 unfold Gz.I8;rw[l,if_neg];rintro⟨i,j⟩;rcases h with h|h
 ·rw[i]at h;cases h
 ·exact j h
def aK(l:List It):∀u∈l.flatMap Bg,u.oneCell'=true:=fun u j=>by obtain⟨x,_,i⟩:=List.mem_flatMap.1 j;unfold Bg at i;simp at i;rcases i with rfl|rfl<;>rfl
def Xl{J w:oU}{o mb tb:Nat}{v bv sv:oV}{g:Gz}{bg:List (List It)}(a8:GN J v g)(au:Below J.heap.size J w)(br:J.heap.size<=o)(aw:Ah w o 203 (v.cells++#[bv,sv,.map (oM mb),.map (oM tb)]))(a7:g.KB=oM bg) :
  Calls Tryz.prog 125 #[.pointer (oM ⟨o,0,oN⟩)] w fun e w'=>e=oQ (.tuple #[])/\∃l R,FI J w w' o l (g.top+1) v sv mb tb R/\R.map (·.2)=bg:=by
 have ab:=a8.fit;have dt:=ab.nn;have du:=ab.nt;have ep:=ab.nr;have ez:=ab.start;obtain⟨N,hN⟩:∃N,N=g.top+1:=⟨_,rfl⟩
 have ec:N<=1000:=by unfold Gz.top at hN;omega
 have f1:g.top<=1000:=by omega
 have er:g.nt<g.top:=by omega
 have el:IntKind.i64.wrap ((g.top:Int)+1)=(g.top:Int)+1:=by rw[IntKind.wrap_i64];omega
 have dr:=fun y=>Js (P:=Tryz.prog) (t:=201) (e:=116) (z:=oG oN 0 0) (bytes:=24) underlying201 nZ rfl (l:=((g.top:Nat):Int)+1) (n:=N) nX nX nX y
 have eo:∀y:oU,(Instr.makeMap 247 oN).run Tryz.prog y=.ok (.map (oM y.heap.size)) (y.alloc (.map #[] 0)):=fun y=>by kernel_rfl
 have HT:=Hd (fun y (hy:Below J.heap.size J y)=>LJ (a8.later hy));have b3:=Hd (fun y (hy:Below J.heap.size J y) (s:Nat)=>NA (a8.later hy) s);have cz:=Hd ab;have az:Hid (∀k,k<=N->g.EF k=oM (bg.take k)):=Hd (fun k hk=>by unfold Gz.KB at a7;rw[<-hN]at a7;exact Uz N k bg hk a7)
 have bj:Hid (bg.length=N):=Hd (by unfold Gz.KB at a7;rw[<-hN]at a7;exact(Mn _ _ a7).1)
 obtain⟨AT,cT,AN,cN,AR,cR,rfl,hc,ef⟩:=a8.open_;have e8:=Hd a8;have cr:=Hd au;have bk:=Hd aw;obtain⟨y0,y1,y2,y3⟩:oT w ⟨o,0,oN⟩=oM (oG AT g.nt cT)/\oT w ⟨o,1,oN⟩=oM (oG AN g.nn cN)/\oT w ⟨o,2,oN⟩=oM (oG AR g.R.length cR)/\oT w ⟨o,3,oN⟩=oM (oH oO g.s):=by have h:=aw.cell;exact⟨h 0,h 1,h 2,h 3⟩
 have ed:=aw.lt;have HN:=Hd hN;have a5:Hid (∀(l:Nat) (wr:oU) (R:List (oV×List It)),FI J w wr o l N (.agg #[oG AT g.nt cT,oG AN g.nn cN,oG AR g.R.length cR,oH oO g.s]) sv mb tb R->Below J.heap.size J wr/\BG wr o (.agg #[oG AT g.nt cT,oG AN g.nn cN,oG AR g.R.length cR,oH oO g.s]) g):=Hd (fun l wr R h=>⟨h.below au br,h.bg au br a8⟩);clear a8 au aw a7 hc ab dt du;rw[<-hN];clear hN;go_enter func125,ntmps125
 go_wp2_with (
        go_at_call 129;refine(HT _ cr).mono ?_;rintro e w1 ⟨rfl,b9⟩
        have bh:=Hd b9;have b1:=bk.below b9 bk.lt;have f4:=Ah.frozen b1 4;have x4:oT w1 ⟨o,4,oN⟩=oM bv:=Ah.cell b1 4;have y0:oT w1 ⟨o,0,oN⟩=oM (oG AT g.nt cT):=Ah.cell b1 0;have l1:=Ah.lt b1;have cu:=Hd b1;clear b1 b9)
 have d4:Hid (FI J w ((w1.setCell ⟨o,4,oN⟩ (oG (oM ⟨w1.heap.size,0,oN⟩) N N)).alloc (oP (Array.replicate N (oG oN 0 0)) 116)) o w1.heap.size N (.agg #[oG AT g.nt cT,oG AN g.nn cN,oG AR g.R.length cR,oH oO g.s]) sv mb tb (List.replicate N (oG oN 0 0,[]))):=Hd (by
  have hs:=bh.size;have cm:(w1.setCell ⟨o,4,oN⟩ (oG (oM ⟨w1.heap.size,0,oN⟩) N N)).heap.size=w1.heap.size:=by simp[World.setCell]
  have hf:=B8.fresh (w1.setCell ⟨o,4,oN⟩ (oG (oM ⟨w1.heap.size,0,oN⟩) N N)) (B:=w.heap.size) (n:=N) (by rw[cm];exact hs) nX;rw[cm]at hf;refine⟨((Am.AJ bh).set (X:=(·=o)) (p:=⟨o,4,oN⟩) (.inr rfl) _).alloc _,?_,hf⟩;exact(cu.Ba 4 (oG (oM ⟨w1.heap.size,0,oN⟩) N N)).alloc _)
 have bt:bg.take (g.nt+1)=List.replicate (g.nt+1) []:=by have h1:=az (g.nt+1) (by rw[HN.out];omega);rw[TS _ (Ay _)]at h1;exact(Option.some.inj h1).symm
 have cs:=Hd bt;have ds:g.nt+1<=N:=by rw[HN.out];omega
 clear bt f4 x4 y0 l1 y1 y2 y3 dr;generalize ek:w1.heap.size=l at *;go_loopw [2] (fun ss wr=>∃(s:Nat) (R:List (oV×List It)),s<=N/\g.nt<s/\ss=oH oO s/\Hid (FI J w wr o l N (.agg #[oG AT g.nt cT,oG AN g.nn cN,oG AR g.R.length cR,oH oO g.s]) sv mb tb R)/\Hid (R.map (·.2)=bg.take s++List.replicate (N-s) [])) (fun ss _=>N-(intOf ss).toNat)
 case atStart=>refine⟨g.nt+1,_,ds,nX,oD,d4,Hd ?_⟩;rw[cs.out,List.map_replicate,List.replicate_append_replicate];congr 1;omega
 case round=>
  rename oU=>w9
  obtain⟨s,R,ev,cd,rfl,HP,HE⟩:=hrel;obtain⟨dk,ee⟩:=a5 l w9 R HP;obtain⟨z0,z1,z2,z3,z4⟩:=HP.cells rfl;have bp:=Hd (HT w9 dk);have bn:=HN.out;by_cases en:s<N
  ·obtain⟨l0,r,bz,hr,c7⟩:=aQ (az (s+1) nX) cd
   have c8:=az s nX;rw[bz]at c8;cases c8
   have HR:=Hd hr;have bm:=Hd c7;have ae:s<=100000:=by omega
   have dx:¬((g.top:Int)<(s:Int)):=by omega
   have ey:(s:Int)<=(g.top:Int):=by omega
   clear bz hr c7 bn;go_wp2_with (
            go_at_call 129;refine bp.mono ?_;rintro e i ⟨rfl,ah⟩
            have bd:JA (i.alloc (.map #[] 0)) i.heap.size 0 (.map []):=World.ownsMap_made (H:=Unit) i Tryz.prog 3 (plainElem Tryz.prog 4);obtain⟨w3,cg,cc,bw⟩:=Ov bd nX ae;have a6:=Hd (HP.later ah);have bi:Hid (Below i.heap.size i w3):=Hd (((Below.refl _ i).alloc (Ay _) _).trans ((Am.of_map bw).below oA (fun k hk e=>by have e2:k=i.heap.size:=e;omega)));have d1:=Hd cc;have d2:=Hd (Im.start.next bd.isMap s);clear bd cc bw ah)
   have ck:=bi.size;have d7:Hid (DH i (w3.alloc (oP #[oH oO s] 3)) i.heap.size 1 (oG (oM ⟨w3.heap.size,0,oN⟩) 1 1) (oG oN 0 0) [s] [s] [] (DataW.put (.map []) (Cq s) (.lit (.bool true)))):=Hd (by
    refine⟨bi.alloc ck _,⟨rfl,.inr ⟨w3.heap.size,0,1,#[oH oO s],rfl,ck,Ah.new _ _ _,Ay _,nY,oA,fun j u hu=>?_⟩⟩,⟨rfl,.inl ⟨rfl,rfl⟩⟩,d1.alloc _,d2,Ay _,Ay _⟩
    match j,hu with
    | 0,hu=>simpa [AY] using hu
    | j+1,hu=>simp at hu)
   have e7:=Hd (a5 l i R a6);clear z0 z1 z2 z3 z4 cg;go_loopg [4,5] Gz.L4 (fun f tv av wr=>∃(I M:List Nat) (all:List It) (n:Nat) (D:DataW Unit),Hid (DH i wr i.heap.size n tv av I M all D)/\Hid (g.FO f I M all=oM r))
   case atStart=>exact⟨[s],[s],[],1,_,d7,HR⟩
   case round=>
    obtain⟨I,M,all,n,D,HQ,b0⟩:=hrel;rename oU=>w4
    have a1:=Hd (a6.later HQ.below);have df:=Hd (a5 l w4 R a1);obtain⟨At,ct,dy⟩:=HQ.todo.shape;obtain⟨Aa,ca,dj⟩:=BK HQ.all;subst dy;subst dj;cases gk with
    | zero=>have h:=b0.out;simp[Gz.FO]at h
    | succ f=>
     cases I with
     | nil=>
      obtain⟨rfl,et⟩:all=r/\all.length<=300:=by
       have h:=b0.out;unfold Gz.FO at h;split at h
       · cases h
       · cases h;exact⟨rfl,nX⟩
      obtain⟨z0,z1,z2,z3,z4⟩:=a1.cells rfl;obtain⟨eb,ax⟩:=a1.AM.Aj;have ei:=Ah.frozen ax s;have bx:∃u,oT w4 ⟨l,s,oN⟩=oM u:=by have h1:=Bh a1.AM.row s nX;have h2:=a1.AM.len;rw[pG,eG nX]at h1;exact⟨_,h1⟩
      obtain⟨u,bx⟩:=bx;have ew:(s:Int)<(N:Int):=by omega
      have ej:=Ah.lt ax;have d5:Hid (FI J w (w4.setCell ⟨l,s,oN⟩ (oG Aa all.length ca)) o l N (.agg #[oG AT g.nt cT,oG AN g.nn cN,oG AR g.R.length cR,oH oO g.s]) sv mb tb (R.set s (oG Aa all.length ca,all))):=Hd (by have hc:Am (·=l) w4 (w4.setCell ⟨l,s,oN⟩ (oG Aa all.length ca)):=Am.set (X:=(·=l)) (Am.refl _ w4) (p:=⟨l,s,oN⟩) (.inr rfl) _;have dp:=(B6 a1.AM.row l rfl).2;have e0:=a6.AA.size;refine⟨a1.AA.set (p:=⟨l,s,oN⟩) (.inl dp) _,hc.Aj a1.Aj (Ah.Bb a1.Aj ax nY),a1.AM.lay (C:=i.heap.size) (fun k x hx b hb=>(B6 (a6.AM.own k x hx) b hb).1) nX HQ.all e0⟩)
      have cy:Hid ((R.set s (oG Aa all.length ca,all)).map (·.2)=bg.take (s+1)++List.replicate (N-(s+1)) []):=Hd (by
       have hl:=congrArg List.length bm;have ay:(bg.take s).length=s:=by rw[List.length_take,bj.out];omega
       rw[List.map_set,HE.out,bm.out,List.set_append_right _ _ nX,ay,Nat.sub_self,show N-s=(N-(s+1))+1 by omega,List.replicate_succ,List.set_cons_zero,List.append_assoc];rfl)
      clear ax z0 z1 z2 z3;go_wp2_with fail
      go_roundw
      case rel=>exact⟨s+1,_,nX,nX,oD,d5,cy⟩
      case measure=>simp[intOf];omega
     | cons U I=>
      have ad:=b0.out;unfold Gz.FO at ad;have eh:I.length+M.length+all.length<=10000:=by
       split at ad
       · cases ad
       · omega
      rw[if_neg nX]at ad;have cw:=Hd ad;clear ad;obtain⟨q,off,di,es,bu,ch⟩:=HQ.todo.at_ oA;subst di;have q0:oT w4 ⟨q,off,oN⟩=oM (oH oO U):=by have:=ch 0 _ rfl;simpa [AY] using this
      obtain⟨z0,z1,z2,z3,z4⟩:=a1.cells rfl;have de:=Hd (YY df.2 (s:=U));have dw:(0:Int)<((I.length:Int)+1):=by omega
      simp only[List.length_cons]at bu;obtain⟨ai,dv,cf⟩:∃ai:Nat,(if ct=1 then oM (⟨q,off,oN⟩:Addr) else oM ⟨q,off+1,oN⟩)=oM ⟨q,ai,oN⟩/\(ai=off+1\/(ct=1/\ai=off)):=by
       by_cases h1:ct=1
       · exact⟨off,by rw[if_pos h1],.inr ⟨h1,rfl⟩⟩
       · exact⟨off+1,by rw[if_neg h1],.inl rfl⟩
      have d3:=Hd cf;have dm:(1:Int)<=(ct:Int):=by omega
      have dn:((I.length:Int)+1)<=(ct:Int):=by omega
      clear ch cf;have eu:=cZ g U;go_wp2_with (first
       | (
          go_at_call 174;refine de.mono ?_;rintro e w5 ⟨f3,rfl,Al,cl,rfl,cj,ba⟩
          have b6:=Hd cj;have aq:=Hd (HQ.later ba);have e6:=Hd ba;clear cj ba)
       | (
          at_builtin;refine DC Pr (.tmp 51) (.tmp 52) rfl rfl (base:=i.heap.size) (n:=all.length) (m:=(g.En U).length) (N:=all.length+(g.En U).length) (xs:=all.flatMap Bg) (news:=(g.En U).flatMap Bg) rfl rfl aq.all (Be.own b6 (aK _)) rfl oB nX aq.below.size ?_
          intro A6 c6 w6 r1 r2 r3;have b5:=Hd (aq.grown r1 r2);have dd:Hid (w6.ownsRow w4.heap.size 220 2 (oG Al (g.En U).length cl) (g.En U).length ((g.En U).flatMap Bg)):=Hd ((Am.CM r3.1).own b6 (fun b hb e=>by have h1:=(B6 b6 b hb).2;have h2:=(B6 HQ.all b e).1;omega))
          clear r1 r2 r3))
      have d9:Hid (DH i w6 i.heap.size n (oG (oM ⟨q,ai,oN⟩) I.length (ct-1)) (oG A6 (all.length+(g.En U).length) c6) I M (all++g.En U) D):=Hd (b5.LN (Cd.tail b5.todo d3));generalize ay:g.En U=T at *;have d0:=Hd ay;generalize c9:T.length=ll at *;have ak:=Hd c9;have hg:g.nt<s:=cd;clear ay c9 q0 z0 z1 z2 z3 z4 dv dm dn dw bu b5 aq;go_loopw [4,56] (fun tv ii wr=>∃(j:Nat) (t P:List Nat) (n':Nat) (D':DataW Unit),j<=ll/\ii=oH oO j/\Hid (DH i wr i.heap.size n' tv (oG A6 (all.length+ll) c6) t P (all++T) D')/\Hid ((t,P)=(T.take j).foldl g.I8 (I,M))/\Hid (wr.ownsRow w4.heap.size 220 2 (oG Al ll cl) ll (T.flatMap Bg))/\Hid (t.length<=I.length+j/\P.length<=M.length+j)) (fun _ ii _=>ll-(intOf ii).toNat)
      case atStart=>exact⟨0,I,M,n,D,AX _,rfl,d9,Hd rfl,dd,Hd ⟨Ay _,Ay _⟩⟩
      case round=>
       obtain⟨j,t,P,n',D',hj,rfl,ar,bl,bo,b2⟩:=hrel;rename oU=>w8
       have ao:=Hd (a6.later ar.below);have dg:=Hd (a5 l w8 R ao);obtain⟨bf,bq,dz⟩:=ar.todo.shape;subst dz;by_cases dq:j<ll
       · obtain⟨⟨xr,xd⟩,hx⟩:∃x,T[j]?=oM x:=⟨_,eG (by rw[ak.out];exact dq)⟩
         have e1:=SJ (g:=g) (s:=U) (x:=(xr,xd)) (by rw[d0.out];exact mG hx);have d6:Hid (CQ w8 (oG Al ll cl) T):=Hd (by have h:=bo.out;rw[<-ak.out]at h ⊢;exact CQ.own h (by rw[ak.out];omega));obtain⟨b,e4,dh,hb,c0,c1⟩:=(d6).at_ hx;subst dh;obtain⟨e3,cn⟩:=e1;simp only at e3 cn c0 c1;have f2:xd<=100000:=by omega
         clear cn;have aa:=Hd (L9 g.I8 T (I,M) j (xr,xd) hx);rw[<-bl.out]at aa;have b8:Hid (∀y,Below w8.heap.size w8 y->DH i y i.heap.size n' (oG bf t.length bq) (oG A6 (all.length+ll) c6) t P (all++T) D'/\y.ownsRow w4.heap.size 220 2 (oG (oM ⟨b,e4,oN⟩) ll cl) ll (T.flatMap Bg)):=Hd (fun y hy=>⟨ar.later hy,AU bo hy⟩);obtain⟨p,ae⟩:∃p,g.next (xr,xd)=p:=⟨_,rfl⟩
         have f0:p<=g.top:=by rw[<-ae];exact cz.PU _
         have be:p<=100000:=by omega
         have an:=Hd (fun y (hy:Below w8.heap.size w8 y)=>N4 (dg.2.later hy) (k:=xr) (d:=xd) nX nX);simp only[ae]at an;have b7:=Hd ae;have a2:=Hd (AG w8 (oP #[oH oO xr,oH oO xd] 220));have e9:=Hd (Ah.new w8 220 #[oH oO xr,oH oO xd]);clear hx ae;cases a9:g.BW p with
         | false=>
           have al:=Hd a9;have ag:=Hd (aa.trans (Tr g _ _ _ p b7 (.inl a9)));clear a9;go_wp2_with (first
             | (
               go_at_call 175;refine(an _ a2).mono ?_;rintro e cp ⟨rfl,hb10⟩
               have a0:=Hd (a2.trans (hb10.mono a2.size));have a3:=Hd (ao.later a0);obtain⟨z0,z1,z2,z3,z4⟩:=a3.cells rfl;clear hb10)
             | (
               go_at_call 168;refine(b3 _ (a5 l _ R a3).1 p).mono ?_;rintro e cq ⟨rfl,a4⟩
               rw[al.out];have af:=Hd (a0.trans (a4.mono a0.size));have C:=Hd (b8 _ af);clear a4))
           go_roundw
           case rel=>exact⟨j+1,t,P,n',D',nX,oD,Hd C.1,Hd ag.symm,Hd C.2,Hd (by have:=b2.out;omega)⟩
           case measure=>simp[intOf];omega
         | true=>
           have al:=Hd a9;by_cases hm:p∈P
           · have ag:=Hd (aa.trans (Tr g _ _ _ p b7 (.inr hm)))
             have HM:=Hd hm;clear a9 hm;go_wp2_with (first
              | (
                 go_at_call 175;refine(an _ a2).mono ?_;rintro e cp ⟨rfl,hb10⟩
                 have a0:=Hd (a2.trans (hb10.mono a2.size));have a3:=Hd (ao.later a0);obtain⟨z0,z1,z2,z3,z4⟩:=a3.cells rfl;clear hb10)
              | (
                 go_at_call 168;refine(b3 _ (a5 l _ R a3).1 p).mono ?_;rintro e cq ⟨rfl,a4⟩
                 rw[al.out];have af:=Hd (a0.trans (a4.mono a0.size));have C:=Hd (b8 _ af);have bc:=LM C.1.map C.1.met be;rw[decide_eq_true HM.out]at bc;clear a4))
             go_roundw
             case rel=>exact⟨j+1,t,P,n',D',nX,oD,Hd C.1,Hd ag.symm,Hd C.2,Hd (by have:=b2.out;omega)⟩
             case measure=>simp[intOf];omega
           · have ag:=Hd (aa.trans (Yr g _ _ _ p b7 a9 hm))
             have HM:=Hd hm;have em:=b2.out;clear a9 hm;go_wp2_with (first
              | (
                 at_builtin;refine Pm Ib (.tmp 77) (.tmp 79) rfl rfl (base:=i.heap.size) (n:=t.length) (m:=1) (N:=t.length+1) (xs:=t.map AY) (news:=[oH oO p]) rfl rfl (b4.later (AG aj (oP #[oH oO p] 3))).todo (Be.Aj (c:=1) (cs:=[oH oO p]) (Ah.new aj 3 _) rfl oE) nX rfl oB nX (b4.later (AG aj (oP #[oH oO p] 3))).below.size ?_
                 intro e5 ea f5 r1 r2 r3;have d8:=Hd ((b4.later (AG aj (oP #[oH oO p] 3))).added r1 r2);have dc:=Hd (by have h:=AU db (AG aj (oP #[oH oO p] 3));exact r2.own h (.inr nY))
                 clear r1 r2 r3)
              | first
                | (
                  go_at_call 175;refine(an _ a2).mono ?_;rintro e cp ⟨rfl,hb10⟩
                  have a0:=Hd (a2.trans (hb10.mono a2.size));have a3:=Hd (ao.later a0);obtain⟨z0,z1,z2,z3,z4⟩:=a3.cells rfl;clear hb10)
                | (
                  go_at_call 168;refine(b3 _ (a5 l _ R a3).1 p).mono ?_;rintro e cq ⟨rfl,a4⟩
                  rw[al.out];have af:=Hd (a0.trans (a4.mono a0.size));have C:=Hd (b8 _ af);have bc:=LM C.1.map C.1.met be;rw[decide_eq_false HM.out]at bc;have eg:=C.1.La;obtain⟨aj,cg,cb,bb⟩:=Ov C.1.map nX be;have b4:=Hd (C.1.mapped cb bb);have db:=Hd ((Am.of_map bb).own C.2 (fun b hb=>Hm C.1.map C.2 b hb));clear cb bb;clear a4))
             go_roundw
             case rel=>exact⟨j+1,t++[p],p::P,n'+1,_,nX,oD,Hd (by simpa using d8.out),Hd ag.symm,dc,Hd oC⟩
             case measure=>simp[intOf];omega
       · obtain rfl:j=ll:=by omega
         have aa:Hid ((t,P)=T.foldl g.I8 (I,M)):=Hd (by have:=bl.out;rw[Da (by rw[ak.out];omega)]at this;exact this);have cv:Hid (g.FO f t P (all++T)=oM r):=Hd (by have h:=cw.out;rw[<-aa.out]at h;exact h);have da:Hid (DH i w8 i.heap.size n' (oG bf t.length bq) (oG A6 (all.length+j) c6) t P (all++T) D'):=ar;go_wp2_with fail
         go_roundg f
         case measure=>omega
         case rel=>exact⟨t,P,all++T,n',D',da,cv⟩
  ·obtain rfl:s=N:=by omega
   have cx:Hid (R.map (·.2)=bg):=Hd (by have h:=HE.out;rw[Da (by rw[bj.out];omega),Nat.sub_self]at h;simpa using h);have dx:¬((s:Int)<=(g.top:Int)):=by omega
   clear bn;go_wp2_with (
            go_at_call 129;refine bp.mono ?_;rintro e i ⟨rfl,ah⟩
            have a6:=Hd (HP.later ah);clear ah)
   go_end0
   exact⟨rfl,l,R,a6,cx⟩
section
open Go.Maps (IsMap Keyed)
def TO:WideMaps.ArrKey Tryz.prog 207 3 2:=⟨underlying207,nZ,nZ,nZ⟩
def Ps:Keyed Tryz.prog 207:=Maps.Keyed.of_law TO.law
def WG:∃m,Tryz.prog.types.size=m+1:=⟨Tryz.prog.types.size-1,by have h:1<=Tryz.prog.types.size:=Nat.le_of_ble_eq_true nZ;omega⟩
def E7(i s:Nat):Lit:=.string (keyBytes [.int .i64 i,.int .i64 s])
def MS{i:Nat}(j:i<=1000000)(l:s<=1000000):keyOf Tryz.prog 207 (.agg #[.int .i64 (i:Int),.int .i64 (s:Int)])=some (E7 i s):=WideMaps.keyOf_pair TO underlying3 WG (WalkArith.wf_i64 nX) (WalkArith.wf_i64 nX)
def SN(i s:Nat):WideAt.IsKeyLit (E7 i s):=by unfold E7;simp[WideAt.IsKeyLit]
def Xd{i j t:Nat}(o:i<=1000000)(C:s<=1000000)(p:j<=1000000)(I:t<=1000000)(h:E7 i s=E7 j t):i=j/\s=t:=by have l:=MS o C;rw[h]at l;have:=Ps.inj l (MS p I);injection this with this;have e:=congrArg Array.toList this;simp only[List.cons.injEq,Value.int.injEq,and_true,true_and]at e;omega
abbrev JP(w:oU)(tb n:Nat)(D:DataW Unit):Prop:=w.ownsMap Tryz.prog 207 (plainElem Tryz.prog 3) tb n D
def GL(D:DataW Unit)(m:Nat->Nat->Option Nat):Prop:=∀i s:Nat,i<=100000->s<=100000->(∀j,m i s=oM j->Maps.has D (E7 i s)=true/\∀z,D.atKey (E7 i s) z=.lit (.int oO (j:Int)))/\(m i s=oN->Maps.has D (E7 i s)=false/\∀z,D.atKey (E7 i s) z=z)
def GL.start:GL (.map []) (fun _ _=>oN):=fun i s _ _=>⟨(fun j h=>by cases h),fun _=>⟨rfl,fun _=>rfl⟩⟩
def GL.next{D:DataW Unit}{m:Nat->Nat->Option Nat}(h:GL D m)(p:IsMap D){i s j:Nat}(I:i<=100000)(J:s<=100000):GL (D.put (E7 i s) (.lit (.int oO (j:Int)))) (fun a b=>if a=i/\b=s then oM j else m a b):=by
 intro a b ha C;by_cases o:a=i/\b=s
 ·obtain⟨rfl,rfl⟩:=o
  refine⟨fun P l=>?_,fun l=>?_⟩
  ·simp only[and_self,if_true]at l
   cases l
   exact⟨Maps.has_put_same p (SN _ _) _,fun z=>Maps.atKey_put_same p (SN _ _) _ _⟩
  ·simp only[and_self,if_true]at l
   cases l
 ·have t:E7 a b≠E7 i s:=fun e=>o (Xd nX nX nX nX e)
  simp only[if_neg o,Maps.has_put_other t,Maps.atKey_put_other t];exact h a b ha C
def GL.congr{D:DataW Unit}{m j:Nat->Nat->Option Nat}(h:GL D m)(l:∀i s,m i s=j i s):GL D j:=by
 have:m=j:=funext fun i=>funext fun s=>l i s
 rw[<-this];exact h
def QL{w:oU}{tb n:Nat}{D:DataW Unit}{m:Nat->Nat->Option Nat}(h:JP w tb n D)(hm:GL D m){i:Nat}(U:i<=100000)(hs:s<=100000) :
  (Instr.lookup 200 (.map (oM tb)) (.agg #[oH oO (i:Int),oH oO (s:Int)]) true).run Tryz.prog w=.ok (.tuple #[oH oO (((m i s).getD 0:Nat):Int),oK (m i s).isSome]) w:=by
 have hk:=MS (i:=i) (s:=s) nX nX;have hz:=plainElem_int (H:=Unit) (a:=0) underlying3 (WalkArith.wf_i64 nX);obtain⟨v,ps,I,P⟩:=h.look_ok Ps underlying200 (LG w) hz hk;have J:(Instr.lookup 200 (.map (oM tb)) (.agg #[oH oO (i:Int),oH oO (s:Int)]) true).run Tryz.prog w=.ok (.tuple #[v,oK (Maps.has D (E7 i s))]) w:=I;have R:plainElem Tryz.prog 3 v=oM (D.atKey (E7 i s) (.lit (.int oO 0)),ps):=P;obtain⟨c,rfl,T,-⟩:=plainElem_int_inv underlying3 R;have j:D.atKey (E7 i s) (.lit (.int oO 0))=.lit (.int oO c):=congrArg Prod.fst T
 rw[J];obtain⟨t,C⟩:=hm i s U hs;cases p:m i s with
 | some a0=>obtain⟨l,o⟩:=t a0 p;rw[o]at j;simp only[DataW.lit.injEq,Lit.int.injEq,true_and]at j;rw[l,<-j];rfl
 | none=>obtain⟨l,o⟩:=C p;rw[o]at j;simp only[DataW.lit.injEq,Lit.int.injEq,true_and]at j;rw[l,<-j];rfl
def cQ{w:oU}{tb n:Nat}{D:DataW Unit}(h:JP w tb n D)(o:n<=10000000){i:Nat}(l:i<=100000)(p:s<=100000)(j:c<=100000) :
  ∃w',(Instr.mapUpdate 200 (.map (oM tb)) (.agg #[oH oO (i:Int),oH oO (s:Int)]) (oH oO (c:Int))).run Tryz.prog w=.ok () w'/\JP w' tb (n+1) (D.put (E7 i s) (.lit (.int oO (c:Int))))/\w.grownBy w' (oM tb):=
 h.update Ps underlying200 oB (MS nX nX) (plainElem_int underlying3 (WalkArith.wf_i64 nX))
def EZ(E:List (List It))(i s:Nat):Option Nat:=((E.getD i []).find? (fun x=>x.1==s)).map (·.2)
def eA(i s:Nat):EZ [] i s=oN:=by simp[EZ]
def fH(E:List (List It))(i s:Nat):EZ (E++[[]]) i s=EZ E i s:=by
 unfold EZ;congr 1;congr 1;rw[dG,dG];by_cases l:i<E.length
 ·rw[gL l]
 ·rw[nG (l:=E) nX]
  by_cases j:i=E.length
  ·subst j;simp
  ·rw[nG oC]
def lC(E:List (List It))(t:List It)(s j:Nat)(R:∀x∈t,x.1<s)(l i:Nat):(if l=E.length/\i=s then oM j else EZ (E++[t]) l i)=EZ (E++[t++[(s,j)]]) l i:=by
 unfold EZ;rw[dG,dG];by_cases p:l=E.length
 ·subst p
  have I:(E++[t])[E.length]?=oM t:=by simp
  have J:(E++[t++[(s,j)]])[E.length]?=oM (t++[(s,j)]):=by simp
  rw[I,J];simp only[Option.getD_some,List.find?_append,true_and];by_cases o:i=s
  ·subst o
   have:t.find? (fun x=>x.1==i)=oN:=List.find?_eq_none.2 fun x T=>by have:=R x T;simp;omega
   rw[this];simp
  ·rw[if_neg o]
   have P:(s==i)=false:=beq_false_of_ne (fun e=>o e.symm);cases t.find? (fun x=>x.1==i)<;>simp[P]
 ·rw[if_neg (fun h=>p h.1)]
  by_cases C:l < E.length
  ·rw[gL C,gL C]
  ·rw[nG (l:=E++[t]) oC,nG (l:=E++[t++[(s,j)]]) oC]
structure Ea(t:List It)(a b:Nat):Prop where
 up:t.Pairwise fun x y=>x.1<y.1
 Fi:∀x∈t,a<=x.1/\x.1<b
def Ea.add{t:List It}{a:Nat}(h:Ea t a s)(ha:a<=s)(j:Nat):Ea (t++[(s,j)]) a (s+1):=by
 refine⟨List.pairwise_append.2 ⟨h.up,List.pairwise_singleton _ _,fun x l y o=>?_⟩,fun x l=>?_⟩
 ·rw[mS.1 o]
  exact(h.Fi x l).2
 ·rcases mA.1 l with i|i
  ·have:=h.Fi x i;omega
  ·rw[mS.1 i];simp only;omega
def Ea.skip{t:List It}{a:Nat}(h:Ea t a s):Ea t a (s+1):=⟨h.up,fun x i=>by have:=h.Fi x i;omega⟩
def Jy(t:List It)(s:Nat):List It:=t.filter fun x=>decide (x.1<s)
theorem Ub{t:List It}{a b:Nat}(h:Ea t a b)(s:Nat):Jy t (s+1)=match t.find? (fun x=>x.1==s) with|some x=>Jy t s++[x]|none=>Jy t s:=by
 unfold Jy;have key:∀t:List It,(t.Pairwise fun x y=>x.1<y.1)->t.filter (fun x=>decide (x.1<s+1))=match t.find? (fun x=>x.1==s) with|some x=>t.filter (fun x=>decide (x.1<s))++[x]|none=>t.filter (fun x=>decide (x.1<s)):=by
  intro t;induction t with
  | nil=>intro _;rfl
  | cons x t C=>
   intro P;obtain⟨l,o⟩:=List.pairwise_cons.1 P;rw[List.filter_cons,List.filter_cons,List.find?_cons];by_cases i:x.1<s
   ·rw[decide_eq_true i,decide_eq_true (by omega:x.1<s+1),if_pos rfl,if_pos rfl,C o,show (x.1==s)=false from beq_false_of_ne nX]
    cases t.find? (fun x=>x.1==s)<;>rfl
   ·by_cases p:x.1=s
    ·have I:t.filter (fun x=>decide (x.1<s+1))=[]:=List.filter_eq_nil_iff.2 fun y j=>by have:=l y j;simp;omega
     have J:t.filter (fun x=>decide (x.1<s))=[]:=List.filter_eq_nil_iff.2 fun y j=>by have:=l y j;simp;omega
     rw[decide_eq_false i,decide_eq_true (by omega:x.1<s+1),I,J,show (x.1==s)=true by simp[p]];rfl
    ·rw[decide_eq_false i,decide_eq_false (by omega:¬x.1<s+1),C o,show (x.1==s)=false from beq_false_of_ne p]
     rfl
 exact key t h.up
def kF{t:List It}{a b:Nat}(h:Ea t a b):Jy t b=t:=List.filter_eq_self.2 fun x i=>by have:=(h.Fi x i).2;simpa using this
def VB{t:List It}{a b:Nat}(h:Ea t a b):Jy t a=[]:=List.filter_eq_nil_iff.2 fun x i=>by have:=(h.Fi x i).1;simp;omega
def IB(g:Gz)(x:It):Prop:=x.1<=g.R.length/\x.2<=8
theorem VW{g:Gz}(h:g.Fit)(k:Nat):(g.right k).length<=8:=by
 unfold Gz.right Gz.Br;split
 ·simp
 ·rw[dG]
  cases i:g.R[k]? with
  | none=>simp
  | some r=>exact h.short r (mG i)
theorem lE{g:Gz}{x:It}(h:g.next x≠0):x.2<(g.right x.1).length:=by
 unfold Gz.next at h;rw[dG]at h;cases i:(g.right x.1)[x.2]? with
 | none=>rw[i]at h;exact absurd rfl h
 | some y=>exact(sG.1 i).1
structure Gk(g:Gz)(R:List (List It)):Prop where
 ok:∀r∈R,∀x∈r,IB g x
 zero:R.getD 0 []=[]
theorem Gk.move{g:Gz}(C:g.Fit){R:List (List It)}(h:Gk g R){x:It}(J:x.1<=g.R.length):Gk g (Dz g R x):=by
 unfold Dz;split
 ·exact h
 ·rename_i p
  have U:=lE p;have T:=VW C x.1;refine⟨fun r I=>?_,?_⟩
  ·obtain⟨i,j⟩:=List.mem_iff_getElem?.1 I
   unfold I9 at j;rw[List.getElem?_modify]at j;cases l:R[i]? with
   | none=>rw[l]at j;cases j
   | some t=>
    rw[l]at j;have h0:=h.ok t (mG l);simp only[Option.map_eq_map,Option.map_some,Option.some.injEq]at j;subst j;split
    ·intro y P
     rcases mA.1 P with o|o
     ·exact h0 y o
     ·rw[mS.1 o];exact⟨J,by simp only;omega⟩
    ·exact h0
  ·have h0:=h.zero
   unfold I9;rw[dG]at h0 ⊢;rw[List.getElem?_modify];cases l:R[0]? with
   | none=>rfl
   | some t=>rw[l]at h0;simp only[Option.map_eq_map,Option.map_some,Option.getD_some]at h0 ⊢;rw[if_neg p];exact h0
theorem Gk.LD{g:Gz}(i:g.Fit):∀(l:List It) {R:List (List It)} (_:Gk g R) (_:∀x∈l,x.1<=g.R.length),Gk g (l.foldl (Dz g) R)
 | [],R,h,_=>h
 | x::l,R,h,j=>Gk.LD i l (h.move i (j x oA)) (fun y o=>j y (by simp[o]))
theorem Gk.steps{g:Gz}(i:g.Fit){bg:List (List It)}(t:∀r∈bg,∀x∈r,x.1<=g.R.length):∀(l:List It) (p:List (List It)×List Nat) (_:Gk g p.1) (_:∀x∈l,x.1<=g.R.length),Gk g (l.foldl (g.EG bg) p).1
 | [],p,h,_=>h
 | x::l,p,h,j=>by
  refine Gk.steps i t l _ ?_ (fun y o=>j y (by simp[o]));unfold Gz.EG;simp only;split
  ·exact h.move i (j x oA)
  ·refine Gk.LD i _ (h.move i (j x oA)) ?_
   rw[dG];cases C:bg[g.next x]? with
   | none=>intro y o;simp at o
   | some r=>exact t r (mG C)
theorem S0{g:Gz}{bg:List (List It)}(j:∀r∈bg,r.length<=300):∀(l:List It) (p:List (List It)×List Nat) (m:Nat) (_:E6 m p.1),E6 (m+301*l.length) (l.foldl (g.EG bg) p).1
 | [],p,m,h=>h
 | x::l,p,m,h=>by
  have o:E6 (m+301) (g.EG bg p x).1:=by
   unfold Gz.EG;simp only;split
   ·exact fun r i=>AW ((h.move g x) r i) nX
   ·have C:(bg.getD (g.next x) []).length<=300:=by
     rw[dG];cases t:bg[g.next x]? with
     | none=>simp
     | some r=>exact j r (mG t)
    exact fun r i=>AW (((h.move g x).LD g (bg.getD (g.next x) [])) r i) nX
  have:=S0 (g:=g) j l _ _ o;rw[List.length_cons,show m+301*(l.length+1)=m+301+301*l.length by omega];exact this
theorem OL:∀(l:List It) (x:It),x∈BP l->x∈l
 | [],x,h=>h
 | [y],x,h=>h
 | y::z::l,x,h=>by
  unfold BP at h;split at h
  ·exact List.mem_cons_of_mem _ (OL (z::l) x h)
  ·rcases List.mem_cons.1 h with rfl|h
   ·exact List.mem_cons_self ..
   ·exact List.mem_cons_of_mem _ (OL (z::l) x h)
def mN{g:Gz}(P:g.Fit){bg:List (List It)}(p:∀r∈bg,r.length<=300/\∀x∈r,x.1<=g.R.length/\x.2<=9000){K:List It}(J:∀x∈K,IB g x)(U:K.length<=300):(∀r∈g.G1 bg K,r.length<=100000/\∀x∈r,IB g x)/\(g.G1 bg K).getD 0 []=[]:=by
 have o:=Gk.steps P (bg:=bg) (fun r i x j=>((p r i).2 x j).1) K (List.replicate (g.top+1) [],[]) ⟨(fun r i x j=>by simp at i;rw[i]at j;cases j),(by simp)⟩ (fun x j=>(J x j).1);have C:=S0 (g:=g) (bg:=bg) (fun r i=>(p r i).1) K (List.replicate (g.top+1) [],[]) 0 (fun r i=>by rw[List.eq_of_mem_replicate i];simp);unfold Gz.G1;refine⟨fun r i=>?_,?_⟩
 ·obtain⟨l,t,rfl⟩:=List.mem_map.1 i
  have T:=C l t;have I:=Ph (I5 l);rw[R7]at I;refine⟨by unfold DF;omega,fun x j=>?_⟩;unfold DF at j;exact o.ok l t x ((NV l).mem_iff.1 (OL _ _ j))
 ·have h0:=o.zero
  rw[dG]at h0 ⊢;rw[pG];cases R:((List.foldl (g.EG bg) (List.replicate (g.top+1) [],[]) K).1)[0]? with
  | none=>rfl
  | some r=>rw[R]at h0;simp only[Option.getD_some]at h0;subst h0;rfl
end
variable{R:List (oV×List It)}{b:Nat}{t:Nat×Bool}
section
open Go.Maps (IsMap)
def eR{w:oU}{o p R U s1 s2:Nat}{i j:TypeId}{v1 v2:oV}{x1 x2:List oV}(C:w.ownsRow o i s1 v1 R x1)(I:w.ownsRow p j s2 v2 U x2)(P:i≠j)(l:v1.ownBlock=oM b):v2.ownBlock≠oM b:=by
 rcases C.2 with⟨rfl,_⟩|⟨g,cap,t,rfl,_,J,_⟩
 ·cases l
 ·cases l
  exact Du I (show Ah w g i t from J) (Ne.symm P)
def DU.AA{w0 w:oU}{bb mb tb:Nat}{v:oV}{g:Gz}{sv:oV}{V:List (oV×oV)}{L:List (List It)}{D:DataW Unit}(h:DU w0 w bb mb tb v g o sv V L D)(j:Am X w w')(t:¬X bb)(C:¬X mb)(I:∀k,sv.ownBlock=oM k->¬X k)(J:∀(i:Nat) (x:oV×oV),V[i]?=oM x->∀k,x.1.ownBlock=oM k->¬X k)(P:∀k,X k->w0.heap.size<=k):DU w0 w' bb mb tb v g o sv V L D:=
 ⟨h.gn,j.Aj h.Aj t,j.own h.rows I,h.len,fun k x l p R=>j.own (h.items k x l p R) (J k x p),j.map h.map C,h.at_,h.ok,h.b0,h.below.trans (j.below h.below.size (fun k U e=>by have:=P k e;omega)),h.small,h.Jj⟩
structure Dk(w0 wr:oU)(bb mb tb gr0 c0:Nat)(v sv:oV)(g:Gz)(bg:List (List It))(V:List (oV×oV))(L:List (List It))(D:DataW Unit)(nT:Nat)(DT:DataW Unit)(m:Nat->Nat->Option Nat):Prop where
 BR:DU w0 wr bb mb tb v g (oG (gr0,0) (g.top+1) c0) sv V L D
 AM:∃R0,B8 wr w0.heap.size gr0 (g.top+1) c0 R0/\R0.map (·.2)=bg
 tm:JP wr tb nT DT
 td:GL DT m
 ne:mb≠tb
 lo:w0.heap.size<=tb
section
variable {w0 wr w2:oU} {bb mb tb gr0 c0:Nat} {v sv:oV} {g:Gz} {bg:List (List It)} {V:List (oV×oV)} {L:List (List It)} {D:DataW Unit} {nT:Nat} {DT:DataW Unit} {m:Nat->Nat->Option Nat}
def Dk.later(h:Dk w0 wr bb mb tb gr0 c0 v sv g bg V L D nT DT m)(i:Below wr wr w2):Dk w0 w2 bb mb tb gr0 c0 v sv g bg V L D nT DT m:=by obtain⟨j,l,o⟩:=h.AM;exact⟨h.BR.later i,⟨j,l.later i,o⟩,(Am.AJ (X:=fun _=>False) i).map h.tm id,h.td,h.ne,h.lo⟩
def Dk.fP(h:Dk w0 wr bb mb tb gr0 c0 v sv g bg V L D nT DT m)(p:∀l∈bg,l.length<=300/\∀x∈l,x.1<=g.R.length/\x.2<=9000):JH wr bb g bg:=by obtain⟨i,j,o⟩:=h.AM;refine⟨⟨_,gr0,_,c0,i,?_,j,o,rfl⟩,p⟩;obtain⟨I,R,t,J,C,P,rfl,-,-⟩:=h.BR.gn.open_;exact h.BR.Aj.cell 4
def QD(bb mb:Nat)(sv:oV)(k:Nat):Prop:=k=bb\/k=mb\/sv.ownBlock=oM k
def Dk.BZ(h:Dk w0 wr bb mb tb gr0 c0 v sv g bg V L D nT DT m)(t:Am (QD bb mb sv) wr w2){B p n:Nat}(i:B8 wr B p n c R):B8 w2 B p n c R:=by
 obtain⟨C,l⟩:=i.Aj;refine i.AA t ?_ ?_
 ·rintro(e|e|e)
  ·exact Ah.Bb h.BR.Aj l nY e.symm
  ·exact Dl h.BR.map l e
  ·exact Du h.BR.rows l nY e
 ·intro k x o b j
  rintro(e|e|e)
  ·exact Du (i.own k x o) h.BR.Aj nY (by rw[j,e])
  ·exact Hm h.BR.map (i.own k x o) b j e
  ·exact eR h.BR.rows (i.own k x o) nY e j
def Dk.Rr{p:oV}{l:List (oV×oV)}{j:List (List It)}{i:DataW Unit}(h:Dk w0 wr bb mb tb gr0 c0 v sv g bg V L D nT DT m)(J:DU w0 w2 bb mb tb v g (oG (gr0,0) (g.top+1) c0) p l j i)(o:Am (QD bb mb sv) wr w2):Dk w0 w2 bb mb tb gr0 c0 v p g bg l j i nT DT m:=by
 obtain⟨t,C,I⟩:=h.AM;refine⟨J,⟨t,h.BZ o C,I⟩,o.map h.tm ?_,h.td,h.ne,h.lo⟩;rintro(e|e|e)
 ·exact Dl h.tm h.BR.Aj e.symm
 ·exact h.ne e.symm
 ·exact Hm h.tm h.BR.rows _ e rfl
def Dk.Rq(h:Dk w0 wr bb mb tb gr0 c0 v sv g bg V L D nT DT m)(t:wr.grownBy w2 (oM tb)){B j n:Nat}(i:B8 wr B j n c R):B8 w2 B j n c R:=by have o:Am (·=tb) wr w2:=Am.of_map t;obtain⟨I,p⟩:=i.Aj;exact i.AA o (Dl h.tm p) (fun k x C b l=>Hm h.tm (i.own k x C) b l)
def Dk.mapped{i:DataW Unit}{p:Nat->Nat->Option Nat}(h:Dk w0 wr bb mb tb gr0 c0 v sv g bg V L D nT DT m)(l:wr.grownBy w2 (oM tb))(U:JP w2 tb (nT+1) i)(P:GL i p):Dk w0 w2 bb mb tb gr0 c0 v sv g bg V L D (nT+1) i p:=by have J:Am (·=tb) wr w2:=Am.of_map l;obtain⟨t,C,I⟩:=h.AM;refine⟨h.BR.AA J (Dl h.tm h.BR.Aj) h.ne (fun k j=>Hm h.tm h.BR.rows k j) (fun a0 x o k j=>?_) (fun k e=>by rw[show k=tb from e];exact h.lo),⟨t,h.Rq l C,I⟩,U,P,h.ne,h.lo⟩;have R:=(sG.1 o).1;exact Hm h.tm (h.BR.items a0 x _ o (eG (by rw[h.BR.len];exact R))) k j
def Dk.congr{j:Nat->Nat->Option Nat}(h:Dk w0 wr bb mb tb gr0 c0 v sv g bg V L D nT DT m)(l:∀i s,m i s=j i s):Dk w0 wr bb mb tb gr0 c0 v sv g bg V L D nT DT j:=
 ⟨h.BR,h.AM,h.tm,h.td.congr l,h.ne,h.lo⟩
end
def bG:El Tryz.prog 117 163 2 16:=El.of (z:=.agg #[oH oO 0,oH oO 0]) underlying117 nZ rfl nY
structure Gw(w0 wr:oU)(bb tb:Nat)(cs:Array oV)(sb sc n:Nat)(V:List (oV×oV))(L T:List (List It))(nT:Nat)(DT:DataW Unit):Prop where
 Aj:Ah wr bb 203 cs
 rows:wr.ownsRow w0 119 2 (oG (sb,0) n sc) n (V.flatMap Fp)
 len:V.length=n/\L.length=n/\T.length=n
 items:∀(k:Nat) (x:oV×oV) (l:List It),V[k]?=oM x->L[k]?=oM l->wr.ownsRow w0 220 2 x.1 l.length (l.flatMap Bg)
 trans:∀(k:Nat) (x:oV×oV) (l:List It),V[k]?=oM x->T[k]?=oM l->wr.ownsRow w0 163 2 x.2 l.length (l.flatMap Bg)
 apart:∀(i j:Nat) (x y:oV×oV),V[i]?=oM x->V[j]?=oM y->i≠j->∀k,x.2.ownBlock=oM k->y.2.ownBlock≠oM k
 tm:JP wr tb nT DT
 below:Below w0 w0 wr
 small:n<=100000
def Wp(V:List (oV×oV)):(V.flatMap Fp).length=V.length*2:=KU Fp 2 (fun _=>rfl) V
theorem bO(r:List (oV×oV))(k:Nat)(a b u:oV)(i:r[k]?=oM (a,b)):(r.flatMap Fp).set (k*2+1) u=(r.set k (a,u)).flatMap Fp:=by
 induction r generalizing k with
 | nil=>simp at i
 | cons x r l=>
  cases k with
  | zero=>simp at i;subst i;rfl
  | succ k=>
   have j:(k+1)*2+1=k*2+1+2:=by omega
   have h:=l k (by simpa using i);rw[List.flatMap_cons,List.set_cons_succ,List.flatMap_cons,<-h,j];rfl
def Mc{w:oU}{B n:Nat}{V:List (oV×oV)}(h:w.ownsRow B 119 2 (oG (b,0) n c) n (V.flatMap Fp)){k:Nat}{x:oV×oV}(t:V[k]?=oM x):oT w (b,k*2)=oM x.1/\oT w (b,k*2+1)=oM x.2:=by obtain⟨l,o⟩:=sG.1 t;have p:=h.1;rw[Wp]at p;have i:=CP Fp 2 (fun _=>rfl) V k 0 l nX;have j:=CP Fp 2 (fun _=>rfl) V k 1 l nX;rw[o,Nat.add_zero]at i;rw[o]at j;exact⟨by rw[Bh h (k*2) nX,i];rfl,by rw[Bh h (k*2+1) nX,j];rfl⟩
section
variable {w0 wr w2 w3:oU} {bb tb:Nat} {cs:Array oV} {sb sc n:Nat} {V:List (oV×oV)} {L T:List (List It)} {nT:Nat} {DT:DataW Unit}
def Gw.later(h:Gw w0 wr bb tb cs sb sc n V L T nT DT)(i:Below wr wr w2):Gw w0 w2 bb tb cs sb sc n V L T nT DT:=
 ⟨h.Aj.below i h.Aj.lt,AU h.rows i,h.len,fun k x l a b=>AU (h.items k x l a b) i,fun k x l a b=>AU (h.trans k x l a b) i,h.apart,(Am.AJ (X:=fun _=>False) i).map h.tm id,h.below.trans (i.mono h.below.size),h.small⟩
def Gw.put(h:Gw w0 wr bb tb cs sb sc n V L T nT DT){i:Nat}{iv tv:oV}{l:List It}(I:V[i]?=oM (iv,tv))(hl:T[i]?=oM l)(hW:Below wr wr w2){x:It}{A:Option Addr}
  (r1:w3.ownsRow w0 163 2 (oG A (l.length+1) c) (l.length+1) (l.flatMap Bg++Bg x)) (P:AI w0 [163] w2 w3) (r3:w2.grownBy w3 tv.ownBlock/\((Value.slice A (l.length+1) c).ownBlock=tv.ownBlock\/(Value.slice A (l.length+1) c).ownBlock=oM w2.heap.size)) :
  Gw w0 (w3.setCell (sb,i*2+1) (oG A (l.length+1) c)) bb tb cs sb sc n (V.set i (iv,oG A (l.length+1) c)) L (T.set i (l++[x])) nT DT:=by
 have o:=h.later hW;obtain⟨hi,-⟩:=sG.1 I;have a3:=h.len;obtain⟨sg,sn,a8⟩:∃a0,Ah w2 sb 119 a0/\w0.heap.size<=sb:=by
  rcases o.rows.2 with⟨hh,_⟩|⟨g',cap,a0,hh,hB,a6,_⟩
  ·cases hh
  ·cases hh;exact⟨a0,a6,hB⟩
 have a4:=P.Aj sn (.inr nY);have R:Am (·=sb) w3 (w3.setCell (sb,i*2+1) (oG A (l.length+1) c)):=Am.set (X:=(·=sb)) (Am.refl _ w3) (p:=⟨sb,i*2+1,oN⟩) (.inr rfl) _;have a5:Am (fun k=>tv.ownBlock=oM k) w2 w3:=Am.CM r3.1;have ab:=o.trans i _ l I hl;have a7:=P.own o.rows (.inr nY);refine⟨R.Aj (P.Aj o.Aj (.inr nY)) (Ah.Bb o.Aj sn nY),?_,⟨by simp[a3],by simp[a3],by simp[a3]⟩,?_,?_,?_,R.map (P.map o.tm) (fun e=>Dl o.tm sn e.symm),?_,h.small⟩
 ·have:=Ge a7 (i*2+1) nX (oG A (l.length+1) c)
  rw[bO V i iv tv _ I]at this;exact this
 ·intro k y m j C
  have:∃y2,V[k]?=oM (y.1,y2):=by
   by_cases p:k=i
   ·subst p
    rw[tG hi]at j;cases j
    exact⟨tv,I⟩
   ·rw[uG (fun e=>p e.symm)]at j
    exact⟨y.2,j⟩
  obtain⟨y2,a9⟩:=this;have t:=P.own (o.items k _ m a9 C) (.inr nY);exact R.own t (FB t a4 nY)
 ·intro k y m j C
  by_cases p:k=i
  ·subst p
   rw[tG hi]at j;rw[tG nX]at C;cases j
   cases C
   have t:w3.ownsRow w0 163 2 (oG A (l.length+1) c) (l++[x]).length ((l++[x]).flatMap Bg):=by simpa using r1
   exact R.own t (FB t a4 nY)
  ·rw[uG (fun e=>p e.symm)]at j C
   have h0:=o.trans k y m j C;have t:=a5.own h0 (fun b hb e=>h.apart k i y _ j I p b hb e);exact R.own t (FB t a4 nY)
 ·intro a b y z j J a1 k p a2
  have key:∀(m:Nat) (y:oV×oV),V[m]?=oM y->m≠i->∀k,(Value.slice A (l.length+1) c).ownBlock=oM k->y.2.ownBlock≠oM k:=fun m y j C k U h4=>by
   rcases r3.2 with e|e
   ·rw[e]at U
    exact h.apart i m _ y I j (fun e=>C e.symm) k U h4
   ·rw[e]at U
    cases U
    have aa:=(sG.1 j).1;have:=(B6 (o.trans m y _ j (eG nX)) _ h4).1;omega
  by_cases ha:a=i
  ·subst ha
   rw[tG hi]at j;cases j
   rw[uG a1]at J;exact key b z J (fun e=>a1 e.symm) k p a2
  ·rw[uG (fun e=>ha e.symm)]at j
   by_cases hb:b=i
   ·subst hb
    rw[tG hi]at J;cases J
    exact key a y j ha k a2 p
   ·rw[uG (fun e=>hb e.symm)]at J
    exact h.apart a b y z j J a1 k p a2
 ·exact(o.below.trans (P.below o.below.size)).setCell (p:=⟨sb,i*2+1,oN⟩) a8 _
def Gw.Gy(h:Gw w0 wr bb tb cs sb sc n V L T nT DT)(p:∀l∈L,l.length<=100000)(C:∀l∈T,l.length<=100000):FE wr (oG (sb,0) n sc) V L T:=by have o:=h.len;obtain rfl:V.length=n:=o.1;have t:sb<wr.heap.size:=(B6 h.rows sb rfl).1;refine⟨⟨_,sc,rfl,(NU h.rows).1,fun k x j=>⟨sb,0,rfl,t,?_⟩⟩,o.2,fun k x l j i=>CQ.own (h.items k x l j i) (by have:=p l (mG i);omega),fun k x l j i=>CQ.own (h.trans k x l j i) (by have:=C l (mG i);omega),h.small⟩;have:=Mc h.rows j;simpa using this
end
def EL(T E:List (List It))(n i s:Nat):Prop:=T.length=n/\E.length=n/\∀k,k<n->T.getD k []=if k<i then E.getD k [] else if k=i then Jy (E.getD k []) s else[]
theorem Lv{E:List (List It)}{a:Nat}(h:∀t∈E,Ea t a b)(k:Nat):Ea (E.getD k []) a b:=by
 rw[dG];cases i:E[k]? with
 | none=>exact⟨List.Pairwise.nil,fun x j=>by cases j⟩
 | some t=>exact h t (mG i)
def EL.start{E:List (List It)}(h:∀t∈E,Ea t 1 N):EL (List.replicate E.length []) E E.length 0 1:=by refine⟨oA,rfl,fun k i=>?_⟩;rw[if_neg nX,VB (Lv h k)];rw[dG,List.getElem?_replicate];split<;>split<;>rfl
theorem EL.skip{T E:List (List It)}{n i:Nat}(h:EL T E n i s)(R:∀t∈E,Ea t 1 N)(j:EZ E i s=oN):EL T E n i (s+1):=by
 obtain⟨o,p,C⟩:=h;refine⟨o,p,fun k J=>?_⟩;rw[C k J];by_cases l:k=i
 ·subst l
  have I:(E.getD k []).find? (fun x=>x.1==s)=oN:=by
   unfold EZ at j;cases P:(E.getD k []).find? (fun x=>x.1==s) with
   | none=>rfl
   | some x=>rw[P]at j;cases j
  rw[Ub (Lv R k) s,I]
 ·simp[l]
def EL.add{T E:List (List It)}{n i j:Nat}(h:EL T E n i s)(hr:∀t∈E,Ea t 1 N)(hi:i<n)(l:EZ E i s=oM j):EL (T.set i (T.getD i []++[(s,j)])) E n i (s+1):=by
 obtain⟨R,U,I⟩:=h;refine⟨by simpa using R,U,fun k J=>?_⟩;by_cases o:k=i
 ·subst o
  have P:(T.set k (T.getD k []++[(s,j)])).getD k []=T.getD k []++[(s,j)]:=by rw[dG,tG nX];rfl
  rw[P,I k J,if_neg nX,if_pos rfl,if_neg nX,if_pos rfl,Ub (Lv hr k) s];unfold EZ at l;cases p:(E.getD k []).find? (fun x=>x.1==s) with
  | none=>rw[p]at l;cases l
  | some x=>rw[p]at l;have C:=List.find?_some p;simp only[beq_iff_eq]at C;simp only[Option.map_some,Option.some.injEq]at l;obtain⟨a,b⟩:=x;simp only at C l;subst C;subst l;rfl
 ·rw[dG,uG (fun e=>o e.symm),<-dG,I k J]
  simp[o]
def EL.E0{T E:List (List It)}{n i:Nat}(h:EL T E n i N)(o:∀t∈E,Ea t 1 N):EL T E n (i+1) 1:=by
 obtain⟨p,C,I⟩:=h;refine⟨p,C,fun k J=>?_⟩;rw[I k J];by_cases j:k<i
 ·rw[if_pos j,if_pos nX]
 ·rw[if_neg j]
  by_cases l:k=i
  ·subst l
   rw[if_pos rfl,if_pos nX,kF (Lv o k)]
  ·rw[if_neg l,if_neg nX]
   split
   ·rw[VB (Lv o k)]
   ·rfl
def EL.done{T E:List (List It)}{n:Nat}(h:EL T E n n s):T=E:=by
 obtain⟨l,o,j⟩:=h;apply List.ext_getElem?;intro k;by_cases i:k<n
 ·have:=j k i
  rw[if_pos i,dG,dG,eG nX,eG nX]at this;rw[eG nX,eG nX];exact congrArg oM this
 ·rw[nG nX,nG nX]
def Dk.ZV{w0 wr:oU}{bb mb tb gr0 c0 sb sc:Nat}{v:oV}{g:Gz}{bg:List (List It)}{V:List (oV×oV)}{L:List (List It)}{D:DataW Unit}{nT:Nat}{DT:DataW Unit}{m:Nat->Nat->Option Nat}(h:Dk w0 wr bb mb tb gr0 c0 v (oG (sb,0) V.length sc) g bg V L D nT DT m):Gw w0 wr bb tb (v.cells++#[oG (oM ⟨gr0,0,oN⟩) (g.top+1) c0,oG (oM ⟨sb,0,oN⟩) V.length sc,.map (oM mb),.map (oM tb)]) sb sc V.length V L (List.replicate V.length []) nT DT:=by
 refine⟨h.BR.Aj,h.BR.rows,⟨rfl,h.BR.len,oA⟩,h.BR.items,fun k x l o I=>?_,fun i j x y o P J k p=>?_,h.tm,h.BR.below,h.BR.small⟩
 ·have t:=h.BR.Jj x (mG o)
  have C:=List.eq_of_mem_replicate (mG I);subst C;rw[t];exact⟨rfl,.inl ⟨rfl,rfl⟩⟩
 ·rw[h.BR.Jj x (mG o)]at p
  cases p
end
variable{i j m n:Nat}{g:Gz}{T:List (List (Nat×Bool))}
def eZ(l:List It):EI [] l=(0,[l]):=by simp[EI]
def fT(L:List (List It))(l:List It):L.length<=(EI L l).2.length/\(EI L l).2.length<=L.length+1/\(EI L l).1<=L.length:=by
 unfold EI;split
 ·rename_i h
  exact⟨Ay _,oA,Nat.le_of_lt (List.idxOf_lt_length_of_mem h)⟩
 ·simp
def jR{P:It->Prop}{L:List (List It)}{l:List It}(h:∀m∈L,∀x∈m,P x)(j:∀x∈l,P x):∀m∈(EI L l).2,∀x∈m,P x:=by
 unfold EI;split
 ·exact h
 ·intro m o
  rcases mA.1 o with i|i
  ·exact h m i
  ·rw[mS.1 i];exact j
def Nh{w:oU}{B:Nat}{e:TypeId}{v:oV}{xs:List oV}(h:w.ownsRow B e s v n xs)(j:0<n):∃g c,v=oG (oM ⟨g,0,oN⟩) n c:=by
 rcases Bj h with⟨_,h0⟩|⟨b,c,i,_⟩
 ·omega
 ·exact⟨b,c,i⟩
theorem Pg:∀(t:List It) (a b:Nat),Ea t a b->t.length<=b-a
 | [],a,b,h=>AX _
 | x::t,a,b,h=>by obtain⟨j,l⟩:=List.pairwise_cons.1 h.up;have o:=h.Fi x oA;have:=Pg t (x.1+1) b ⟨l,fun y i=>by have:=j y i;have:=h.Fi y (by simp[i]);omega⟩;rw[List.length_cons];omega
def UF(x:It)(y:oU):Be (y.alloc (oP #[x.1,x.2] 163)) (oG (y,0) 1 1) 1 2 (Bg x):=
 Be.Aj (c:=1) (cs:=Bg x) (Ah.new y 163 _) rfl (fun u i=>by unfold Bg at i;simp at i;rcases i with rfl|rfl<;>rfl)
structure Lk(w W:oU)(bb mb tb gb:Nat)(v:oV):Prop where
 below:Below w w W
 Aj:Ah W bb 203 (v.cells++#[oG oN 0 0,oG oN 0 0,.map (oM mb),.map (oM tb)])
 pm:Io W mb 0 (.map [])
 tm:JP W tb 0 (.map [])
 M8:Ah W gb 47 v.cells
 lo:w.heap.size<=bb/\w.heap.size<=mb/\w.heap.size<=tb/\mb≠tb
def Lk.make{w i:oU}{v:oV}(l:Below w w i)(o:Ah i j 47 v.cells):Lk w (((i.alloc (.map #[] 0)).alloc (.map #[] 0)).alloc (oP (v.cells++#[oG oN 0 0,oG oN 0 0,.map (oM i.heap.size),.map (oM (i.heap.size+1))]) 203)) (i.heap.size+1+1) i.heap.size (i.heap.size+1) j v:=by
 have p:=l.size;refine⟨((l.alloc p _).alloc oC _).alloc oC _,Ah.newAt oA,?_,?_,((o.alloc _).alloc _).alloc _,nX⟩
 ·exact((World.ownsMap_made (H:=Unit) i Tryz.prog 9 (plainElem Tryz.prog 3)).alloc _).alloc _
 ·have:=World.ownsMap_made (H:=Unit) (i.alloc (.map #[] 0)) Tryz.prog 207 (plainElem Tryz.prog 3)
  rw[show (i.alloc (.map #[] 0)).heap.size=i.heap.size+1 by simp]at this;exact this.alloc _
def Lk.Yu{w W w2 t:oU}{mb tb U:Nat}{v:oV}{bg:List (List It)}(h:Lk w W j mb tb U v)(hg:GN w v g)(I:N=g.top+1)(p:FI w W w2 j C N v (oG oN 0 0) mb tb R)(hR:R.map (·.2)=bg)(l:Below w2 w2 t):Dk w t j mb tb C N v (oG oN 0 0) g bg [] [] (.map []) 0 (.map []) (EZ []):=by
 have T:=p.below h.below h.lo.1;have P:=p.later l;have h3:=T.trans (l.mono T.size);have a0:=Dl h.pm h.Aj;have a1:=Dl h.tm h.Aj;have J:∀{b:Nat} {k:TypeId} {n:Nat} {D:DataW Unit},W.ownsMap Tryz.prog k (plainElem Tryz.prog 3) b n D->b≠j->t.ownsMap Tryz.prog k (plainElem Tryz.prog 3) b n D:=fun hh a2=>(Am.AJ (X:=fun _=>False) l).map (p.AA.map hh a2) id
 refine⟨⟨hg,?_,⟨rfl,.inl ⟨rfl,rfl⟩⟩,rfl,(fun k x a4 i=>by simp at i),J h.pm (Ne.symm a0),Jb.start,(fun a4 hl=>by cases hl),⟨h.lo.1,h.lo.2.1⟩,h3,oA,(fun x i=>by cases i)⟩,⟨R,?_,hR⟩,J h.tm (Ne.symm a1),?_,h.lo.2.2.2,h.lo.2.2.1⟩
 ·have:=P.Aj
  subst I;exact this
 ·have o:=P.AM
  subst I;exact⟨EN o.row h.below.size,fun k x i=>EN (o.own k x i) h.below.size,o.apart⟩
 ·exact GL.start.congr fun a3 s=>(eA a3 s).symm
structure Mg(B:Nat)(w:oU)(v:oV)(V:List (oV×oV))(L E:List (List It)):Prop where
 rows:w.ownsRow B 119 2 v V.length (V.flatMap Fp)
 len:L.length=V.length/\E.length=V.length
 items:∀(k:Nat) (x:oV×oV) (l:List It),V[k]?=oM x->L[k]?=oM l->w.ownsRow B 220 2 x.1 l.length (l.flatMap Bg)
 trans:∀(k:Nat) (x:oV×oV) (l:List It),V[k]?=oM x->E[k]?=oM l->w.ownsRow B 163 2 x.2 l.length (l.flatMap Bg)
 Gy:FE w v V L E
variable{w:oU}{v:oV}{l:List (Nat×Bool)}{k:Nat}
def Gw.kS{o wr:oU}{t tb:Nat}{cs:Array oV}{V:List (oV×oV)}{L T:List (List It)}{p:DataW Unit}(h:Gw o wr t tb cs i j n V L T C p)(ha:FE wr (oG (i,0) n j) V L T):Mg o.heap.size wr (oG (i,0) n j) V L T:=by have l:=h.len;obtain rfl:V.length=n:=l.1;exact⟨h.rows,l.2,h.items,h.trans,ha⟩
def RE(hg:GN w v g){f:Nat}{Lf Ef:List (List It)}(ha:g.KD f=oM (Lf,Ef)) :
  Calls Tryz.prog 90 #[v] w fun e w'=>∃lv V,e=oQ (.tuple #[lv,oH oO 0])/\Mg w.heap.size w' lv V Lf Ef/\Below w.heap.size w w':=by
 have aq:=hg.fit;have ga:=aq.nr;have f5:=aq.nn;have f6:=aq.nt;obtain⟨bg,c0,dd⟩:∃bg,g.KB=oM bg/\g.Ja bg f 0 [[(g.R.length,0)]] []=oM (Lf,Ef):=by
  unfold Gz.KD at ha;cases hq:g.KB with
  | none=>rw[hq]at ha;cases ha
  | some bg=>rw[hq]at ha;exact⟨bg,rfl,ha⟩
 have dc:=Mn _ _ c0;obtain⟨N,hN⟩:∃N,N=g.top+1:=⟨_,rfl⟩
 have fw:N<=1000:=by unfold Gz.top at hN;omega
 have gi:g.top<=1000:=by omega
 have cf:=Hd dc.2;have e5:=Hd dd;have ea:=Hd aq;have cg:=Hd (fun y (hy:Below w.heap.size w y)=>Pq (hg.later hy));have HT:=Hd (fun y (hy:Below w.heap.size w y)=>LJ (hg.later hy));have cd:=Hd (fun y (hy:Below w.heap.size w y)=>Yh (hg.later hy));have cq:=Hd (fun(y:oU) (l mb tb:Nat) (hy:Below w.heap.size w y) (h1:w.heap.size<=l) (h2:Ah y l 203 (v.cells++#[oG oN 0 0,oG oN 0 0,.map (oM mb),.map (oM tb)]))=>Xl hg hy h1 h2 c0);have HG:=Hd hg;have f0:∀y:oU,(Instr.makeMap 133 oN).run Tryz.prog y=.ok (.map (oM y.heap.size)) (y.alloc (.map #[] 0)):=fun y=>by kernel_rfl
 have f1:∀y:oU,(Instr.makeMap 200 oN).run Tryz.prog y=.ok (.map (oM y.heap.size)) (y.alloc (.map #[] 0)):=fun y=>by kernel_rfl
 obtain⟨J,T,C,P,I,R,rfl,hc,g0⟩:=hg.open_;have bd:=Hd (Ah.new w 47 #[oG J g.nt T,oG C g.nn P,oG I g.R.length R,oH oO g.s]);have av:=Hd (AG w (oP #[oG J g.nt T,oG C g.nn P,oG I g.R.length R,oH oO g.s] 47));have HN:=Hd hN;clear hg ha c0 dd dc hc aq hN f5 f6;go_enter func90,ntmps90
 go_wp2_with (first
  | (
    go_at_call 124;refine(cg _ av).mono ?_;rintro e w1 ⟨rfl,bv⟩
    have cc:=Hd (av.trans (bv.mono av.size));have g1:=bd.below bv bd.lt;have bb:=Hd g1;have y0:=Ah.cell g1 0;have y1:=Ah.cell g1 1;have y2:=Ah.cell g1 2;have y3:=Ah.cell g1 3;simp at y0 y1 y2 y3;have l1:=Ah.lt g1;have a5:=Hd (Lk.make cc (v:=.agg #[oG J g.nt T,oG C g.nn P,oG I g.R.length R,oH oO g.s]) g1);clear g1 bv)
  | (
    go_at_call 125;refine(cq _ _ _ _ a5.below a5.lo.1 a5.Aj).mono ?_;rintro e w2 ⟨rfl,gr,R0,hp,hR⟩
    rw[<-HN.out]at hp;have HP:=Hd hp;have cr:=Hd hR;have g2:=hp.AA.Aj a5.M8 (Ne.symm (Ah.Bb a5.Aj a5.M8 nY));have y0:=Ah.cell g2 0;have y1:=Ah.cell g2 1;have y2:=Ah.cell g2 2;have y3:=Ah.cell g2 3;simp[Value.cells]at y0 y1 y2 y3;have b7:=Hd (hp.below a5.below a5.lo.1);have a1:=Hd g2;clear hp hR g2)
  | (
    go_at_call 127;refine(cd _ b7).mono ?_;rintro e w3 ⟨A3,c3,rfl,dt,bw⟩
    have aj:=Hd (Lk.Yu a5 HG HN HP cr bw);have cs:=Hd (EN dt b7.size);have a9:=Hd (a1.below bw a1.lt);clear dt bw)
  | (
    go_at_call 126;refine(QV aj.BR (l:=[(g.R.length,0)]) (by simpa using cs.out) ⟨oA,fun x p=>by rw[mS.1 p];constructor<;>simp only<;>omega⟩ oA).mono ?_;rintro e w4 ⟨rfl,sv,V,D,db,c6⟩
    have ay:=Hd (aj.Rr db c6);have ch:=Hd (c6.Aj a9 (by
      rintro(e|e|e)
      · exact Ah.Bb aj.BR.Aj a9 nY e.symm
      · exact Dl aj.BR.map a9 e
      · cases e))
    clear db c6))
 rw[eZ]at ay;simp only at ay;clear y0 y1 y2 y3 a5 HP cr b7 a1 aj cs a9 cc bb bd av cg cd cq f0 f1;generalize eu:w1.heap.size+1+1=l at *;generalize ff:w1.heap.size+1=tb at *;generalize ez:w1.heap.size=mb at *;generalize dg:w.heap.size=gb at ch ⊢;have fo:=Hd dg;clear eu ff ez dg l1;generalize e1:(.agg #[oG J g.nt T,oG C g.nn P,oG I g.R.length R,oH oO g.s]:oV)=vv at ay;have an:=Hd e1;clear e1;go_loopg [6] f (fun fu ii wr=>∃(i:Nat) (sv:oV) (V:List (oV×oV)) (L:List (List It)) (D:DataW Unit) (nT:Nat) (DT:DataW Unit) (E:List (List It)),ii=oH oO i/\Hid (Dk w wr l mb tb gr N vv sv g bg V L D nT DT (EZ E))/\Hid (g.Ja bg fu i L E=oM (Lf,Ef))/\Hid (E.length=i/\i<=L.length/\L.length<=2000/\nT<=1000*i/\1<=L.length)/\Hid ((∀a8∈L,∀x∈a8,IB g x)/\∀t∈E,Ea t 1 N)/\Hid (Ah wr gb 47 #[oG J g.nt T,oG C g.nn P,oG I g.R.length R,oH oO g.s]))
 case atStart=>exact⟨0,_,_,_,_,0,_,[],rfl,ay,e5,Hd ⟨rfl,AX _,oA,AX _,oA⟩,Hd ⟨fun a8 hl x p=>by rw[mS.1 hl]at p;rw[mS.1 p];exact⟨Ay _,oA⟩,fun t ht=>by cases ht⟩,ch⟩
 case round=>
  rename oU=>w9
  obtain⟨i,sv,V,L,D,nT,DT,E,rfl,HS,b8,ec,ah,be⟩:=hrel;obtain⟨bm,dh,d5,ds,d4⟩:=ec.out;have bp:=HS.BR.len;obtain⟨sb,sc,fd⟩:=Nh HS.BR.rows nX;subst fd;have c5:oT w9 ⟨l,5,oN⟩=oM (oG (oM ⟨sb,0,oN⟩) V.length sc):=by have h:=HS.BR.Aj.cell 5;rw[<-an.out]at h;exact h
  cases gk with
  | zero=>have h:=b8.out;simp[Gz.Ja]at h
  | succ fu=>
   by_cases b5:i<V.length
   · obtain⟨K,hK⟩:∃K,L[i]?=oM K:=⟨_,eG nX⟩
     obtain⟨⟨iv,gm⟩,bu⟩:∃x,V[i]?=oM x:=⟨_,eG b5⟩
     have a3:=b8.out;unfold Gz.Ja at a3;rw[hK]at a3;simp only at a3;have d3:K.length<=300:=by
       split at a3
       · cases a3
       · omega
     rw[if_neg nX]at a3;have d6:(Gz.Fu (g.G1 bg K) 0 L []).1.length<=2000:=by
       split at a3
       · cases a3
       · omega
     rw[if_neg nX]at a3;have e3:=Hd a3;have bn:=ah.1 K (mG hK);have d8:=mN ea cf bn d3;obtain⟨s0,s1⟩:=Mc HS.BR.rows bu;have c9:=HS.BR.items i _ K bu hK;obtain⟨Ai,ci,dj⟩:=BK c9;simp only at dj s0;subst dj;have eo:=Hd (WS HS.BR.bg (HS.fP cf) (CQ.own c9 nX) d3 (fun x p=>by have:=bn x p;unfold IB at this;omega));have g3:(i:Int)<(V.length:Int):=by omega
     have cy:=Hd d8;have eh:=Hd d6;have cm:=Hd bp;have ba:=Hd bm;have bi:=Hd (show L.length<=2000/\nT<=1000*i/\i<=2000 by omega);generalize dn:K.length=kl at *;generalize f9:g.G1 bg K=a7 at *;have fq:=Hd dn;have fg:w9.heap.size<=w9.heap.size:=Ay _;clear a3 d8 d6 bp bm dn f9 s1 c9 bu hK bn d5 ds dh d4 fg;go_wp2_with (
              go_at_call 128;refine eo.mono ?_;rintro e w5 ⟨er,ep,R5,rfl,c7,d7,bx⟩
              rw[<-HN.out]at c7;have e7:=Hd c7;have cu:=Hd d7;have el:=Hd (HS.later bx);have eb:=Hd (be.below bx be.lt);rw[<-HN.out];clear c7 d7 bx)
     have e6:Hid (Dk w w5 l mb tb gr N vv (oG (oM ⟨sb,0,oN⟩) V.length sc) g bg V L D nT DT (EZ (E++[[]]))):=Hd (el.congr fun a b=>(fH E a b).symm);go_loopw [49] (fun jj wr=>∃(s:Nat) (cb:oV) (V':List (oV×oV)) (j:List (List It)) (D':DataW Unit) (a6:Nat) (au:DataW Unit) (t:List It),s<=N/\jj=oH oO s/\Hid (Dk w wr l mb tb gr N vv cb g bg V' j D' a6 au (EZ (E++[t])))/\Hid (B8 wr w9.heap.size er N ep R5)/\Hid (Gz.Fu (a7.drop s) s j t=Gz.Fu a7 0 L [])/\Hid (Ea t 1 s)/\Hid (j.length<=L.length+s/\a6<=nT+s/\L.length<=j.length)/\Hid (∀a8∈j,∀x∈a8,IB g x)/\Hid (Ah wr gb 47 #[oG J g.nt T,oG C g.nn P,oG I g.R.length R,oH oO g.s])) (fun jj _=>N-(intOf jj).toNat)
     case atStart=>exact⟨0,_,V,L,D,nT,DT,[],AX _,rfl,e6,e7,Hd rfl,Hd ⟨List.Pairwise.nil,fun x p=>by cases p⟩,Hd ⟨Ay _,Ay _,Ay _⟩,Hd ah.1,eb⟩
     case round=>
       obtain⟨s,cb,V',j,D',a6,au,t,fa,rfl,a2,aa,cv,ax,bh,bj,ad⟩:=hrel;rename oU=>w6
       by_cases c8:s<N
       · have ew:=aa.len
         obtain⟨⟨kv,U⟩,p⟩:∃x,R5[s]?=oM x:=⟨_,eG nX⟩
         have b6:a7[s]?=oM U:=by rw[<-cu.out,pG,p];rfl
         have cx:=Hd (by have h:=cv.out;rw[I6 b6,Gz.Fu]at h;exact h);have dp:=cy.1 U (mG b6);have em:Hid (U.length≠0->1<=s):=Hd (fun f4=>by
          rcases Nat.eq_zero_or_pos s with rfl|h
          ·have h0:=cy.2
           rw[dG,b6]at h0;exact absurd (by rw[show U=[] from h0];rfl) f4
          ·exact h)
         have ai:=Hd (aa.own s _ p);obtain⟨Ak,ck,dq⟩:=BK ai;simp only at dq;subst dq;have g5:=Bh aa.row s nX;rw[pG,p]at g5;simp only[Option.map_some]at g5;have gg:(s:Int)<(N:Int):=by omega
         obtain⟨fs,ft,fv⟩:=bh.out;obtain⟨fx,fy,fz⟩:=bi.out;have bf:=Hd dp;clear ew p b6 dp;by_cases h0:U.length=0
         ·have bk:Hid (Gz.Fu (a7.drop (s+1)) (s+1) j t=Gz.Fu a7 0 L []):=Hd (by have h:=cx.out;rw[if_pos h0]at h;exact h)
          generalize f7:U.length=q0 at *;subst h0;clear f7;go_wp2_with fail
          go_roundw
          case rel=>exact⟨s+1,cb,V',j,D',a6,au,t,nX,oD,a2,aa,bk,Hd ax.skip,Hd nX,bj,ad⟩
          case measure=>simp[intOf];omega
         ·have bk:Hid (Gz.Fu (a7.drop (s+1)) (s+1) (EI j U).2 (t++[(s,(EI j U).1)])=Gz.Fu a7 0 L []):=Hd (by have h:=cx.out;rw[if_neg h0]at h;exact h)
          have du:=em h0;have gd:(0:Int)<(U.length:Int):=by omega
          obtain⟨dy,dz,fc⟩:=fT j U;have bq:=a2.BR.len;have d9:V'.length<100000:=by omega
          have hj:(EI j U).1<=100000:=by omega
          have es:=ba.out;have ev:i<=100000:=by omega
          have b9:=Hd (a2.later (w2:=w6.drew) ((Below.refl _ w6).drew));have en:=Hd (QV b9.BR (iv:=oG Ak U.length ck) (l:=U) (EN (AU ai ((Below.refl _ w6).drew)) (HS.BR.below.size)) ⟨bf.1,fun x p=>by have:=bf.2 x p;unfold IB at this;omega⟩ d9);have z7:oT w6 ⟨l,7,oN⟩=oM (.map (oM tb)):=by have h:=a2.BR.Aj.cell 7;rw[<-an.out]at h;exact h
          have HJ:=Hd (And.intro dy (And.intro dz hj));generalize dk:(EI j U).1=jj at *;generalize bo:(EI j U).2=L7 at *;have cl:=Hd (And.intro dk bo);have ee:Hid (∀m∈L7,∀x∈m,IB g x):=Hd (by rw[<-bo];exact jR bj bf.2);have ag:=Hd (show a6<=10000000/\i<=100000/\s<=100000 by omega);have e2:Hid (L7.length<=L.length+(s+1)/\a6+1<=nT+(s+1)/\L.length<=L7.length):=Hd nX;clear bq dk bo dy dz fc es ev h0;go_wp2_with fail
          go_region_law (first|(
                   go_simp;go_at_call 126;refine en.mono ?_;rintro e w7 ⟨rfl,fj,V7,D7,bz,b4⟩;have b2:=b9.Rr (by rw[cl.2]at bz;exact bz) b4;obtain⟨w8,gf,dr,df⟩:=cQ b2.tm ag.1 ag.2.1 ag.2.2 HJ.2.2;rw[cl.1];have z8:oT w7 ⟨l,7,oN⟩=oM (.map (oM tb)):=by have h:=b2.BR.Aj.cell 7;rw[<-an.out]at h;exact h
                   have e8:=Hd (b9.BZ b4 (aa.later ((Below.refl _ w6).drew)));have cj:Hid (Ah w7 gb 47 #[oG J g.nt T,oG C g.nn P,oG I g.R.length R,oH oO g.s]):=Hd (b4.Aj (Ah.drew ad) (by
                    rintro(e|e|e)
                    ·exact Ah.Bb a2.BR.Aj ad nY e.symm
                    ·exact Dl a2.BR.map ad e
                    ·exact Du a2.BR.rows ad nY e))
                   have ak:=Hd b2;have ed:=Hd dr;have bc:=Hd df;clear b2 bz b4 dr df))
          all_goals go_wp2_with fail
          all_goals go_roundw
          all_goals first
           | exact⟨s+1,fj,V7,L7,D7,a6+1,_,t++[(s,jj)],nX,oD,Hd (ak.mapped bc ed ((ak.td.next ak.tm.isMap ag.2.1 ag.2.2).congr (fun a b=>by rw[<-ba.out];exact lC E t s jj (fun x p=>(ax.Fi x p).2) a b))),Hd (ak.Rq bc e8),bk,Hd (ax.add du jj),e2,ee,Hd ((Am.of_map bc).Aj cj (Dl ak.tm cj))⟩
           | (simp[intOf];omega)
       · have dx:s=N:=by omega
         have f8:a7.length=N:=by rw[<-cu.out,lM,aa.len]
         have cw:Hid ((j,t)=Gz.Fu a7 0 L []):=Hd (by have h:=cv.out;rw[List.drop_of_length_le nX,Gz.Fu]at h;exact h);have ek:Hid (Ea t 1 N):=Hd (by rw[<-dx];exact ax);have et:j.length<=2000:=by have h:=eh.out;rw[<-cw.out]at h;exact h
         have bq:=a2.BR.len;have d9:¬((2000:Int)<(V'.length:Int)):=by omega
         obtain⟨fh,fi,fe⟩:=Nh a2.BR.rows (by have:=bh.out;have:=b5;have:=cm.out;omega);subst fe;have z5:oT w6 ⟨l,5,oN⟩=oM (oG (oM ⟨fh,0,oN⟩) V'.length fi):=by have h:=a2.BR.Aj.cell 5;rw[<-an.out]at h;exact h
         have e4:Hid (g.Ja bg fu (i+1) j (E++[t])=oM (Lf,Ef)):=Hd (by have h:=e3.out;rw[<-cw.out]at h;exact h);have e9:Hid ((E++[t]).length=i+1/\i+1<=j.length/\j.length<=2000/\a6<=1000*(i+1)/\1<=j.length):=Hd (by have h1:=bh.out;have h2:=bi.out;have h3:=cm.out;have h4:=ba.out;rw[Cb,List.length_singleton];omega)
         have ef:Hid ((∀a8∈j,∀x∈a8,IB g x)/\∀u∈E++[t],Ea u 1 N):=Hd ⟨bj,fun u hu=>by
          rcases mA.1 hu with h1|h1
          ·exact ah.2 u h1
          ·rw[mS.1 h1];exact ek⟩
         have g4:=bi.2.2;clear dx f8 et bq;go_wp2_with fail
         go_roundg fu
         case measure=>omega
         case rel=>exact⟨i+1,_,V',j,D',a6,au,E++[t],oD,a2,e4,e9,ef,ad⟩
   · obtain⟨rfl,rfl⟩:L=Lf/\E=Ef:=by
       have h:=b8.out;unfold Gz.Ja at h;rw[nG nX]at h;injection h with h;injection h with h1 h2;exact⟨h1,h2⟩
     have di:i=V.length:=by omega
     have b1:E.length=V.length:=by omega
     have HR:=Hd ah.2;have fp:=Hd ah.1;have br:=EL.start HR;rw[b1]at br;have d1:=Hd br;have az:=Hd HS.ZV;have f2:V.length<=2000:=by omega
     have cz:=Hd HS.td;have da:vv.cells=#[oG J g.nt T,oG C g.nn P,oG I g.R.length R,oH oO g.s]:=by rw[<-an.out];rfl
     rw[da]at az;have cn:=HN.out;rw[<-cn]at az;obtain⟨n,hn⟩:∃n,n=V.length:=⟨_,rfl⟩
     rw[<-hn]at az d1 f2 c5 b5 b1 di;have fm:=Hd b1;have g6:¬((i:Int)<(n:Int)):=by omega
     clear cn da br b1 di bm bp d5 ds dh d4 hn b5;go_wp2_with fail
     go_loopw [79] (fun ii wr=>∃(k:Nat) (V':List (oV×oV)) (ao:List (List It)),k<=n/\ii=oH oO k/\Hid (Gw w wr l tb (#[oG J g.nt T,oG C g.nn P,oG I g.R.length R,oH oO g.s]++#[oG (oM ⟨gr,0,oN⟩) N N,oG (oM ⟨sb,0,oN⟩) n sc,.map (oM mb),.map (oM tb)]) sb sc n V' L ao nT DT)/\Hid (EL ao E n k 1)/\Hid (Ah wr gb 47 #[oG J g.nt T,oG C g.nn P,oG I g.R.length R,oH oO g.s])) (fun ii _=>n-(intOf ii).toNat)
     case atStart=>exact⟨0,V,_,AX _,rfl,az,d1,be⟩
     case round=>
       obtain⟨k,V1,T1,g7,rfl,al,cp,bb⟩:=hrel;rename oU=>fk
       by_cases c8:k<n
       · go_wp2_with fail
         go_loopw [10] (fun ss wr=>∃(s:Nat) (V':List (oV×oV)) (ao:List (List It)),1<=s/\s<=N/\ss=oH oO s/\Hid (Gw w wr l tb (#[oG J g.nt T,oG C g.nn P,oG I g.R.length R,oH oO g.s]++#[oG (oM ⟨gr,0,oN⟩) N N,oG (oM ⟨sb,0,oN⟩) n sc,.map (oM mb),.map (oM tb)]) sb sc n V' L ao nT DT)/\Hid (EL ao E n k s)/\Hid (Ah wr gb 47 #[oG J g.nt T,oG C g.nn P,oG I g.R.length R,oH oO g.s])) (fun ss _=>N-(intOf ss).toNat)
         case atStart=>exact⟨1,V1,T1,Ay _,(by rw[HN.out];omega),rfl,al,cp,bb⟩
         case round=>
          obtain⟨s,V2,T2,du,fa,rfl,af,aw,a1⟩:=hrel;rename oU=>fl
          have x0:=Ah.cell a1 0;have x1:=Ah.cell a1 1;have x2:=Ah.cell a1 2;have x3:=Ah.cell a1 3;simp at x0 x1 x2 x3;have bl:=Hd (HT fl af.below);by_cases g9:s<N
          ·have dm:k<=100000:=by omega
           have dv:s<=100000:=by omega
           have fb:(s:Int)<=(g.top:Int):=by have:=HN.out;omega
           cases he:EZ E k s with
           | none=>
            have HE:=Hd he;have ae:=Hd (aw.skip HR he);clear he;go_wp2_with (
                go_at_call 129;refine bl.mono ?_;rintro e a0 ⟨rfl,a4⟩
                have o:=Hd (af.later a4);have ab:=Hd (a1.below a4 a1.lt);have z7:oT a0 ⟨l,7,oN⟩=oM (.map (oM tb)):=Ah.cell o.Aj 7;have ar:=QL o.tm cz dm dv;rw[HE.out]at ar;simp only[Option.getD_none,Option.isSome_none]at ar;clear a4)
            go_roundw
            case rel=>exact⟨s+1,V2,T2,nX,nX,oD,o,ae,ab⟩
            case measure=>simp[intOf];omega
           | some ca=>
            have HE:=Hd he;have ae:=Hd (aw.add HR c8 he);have ey:=af.len;obtain⟨⟨iv,tv⟩,hV⟩:∃x,V2[k]?=oM x:=⟨_,eG nX⟩
            obtain⟨tl,hT⟩:∃x,T2[k]?=oM x:=⟨_,eG nX⟩
            have bt:T2.getD k []=tl:=by rw[dG,hT];rfl
            rw[bt]at ae;have gh:tl.length<=1000:=by have h:=aw.2.2 k c8;rw[if_neg nX,if_pos rfl,bt]at h;rw[h];have h1:=Pg _ _ _ (Lv HR k);have h2:=List.length_filter_le (fun x:It=>decide (x.1<s)) (E.getD k []);unfold Jy;omega
            obtain⟨At,ct,e0⟩:=BK (af.trans k _ tl hV hT);simp only at e0;subst e0;have b0:=Hd hV;have d2:=Hd hT;have g8:(k:Int)<(n:Int):=by omega
            clear he ey hV hT bt;go_wp2_with (
                go_at_call 129;refine bl.mono ?_;rintro e a0 ⟨rfl,a4⟩
                have o:=Hd (af.later a4);have ab:=Hd (a1.below a4 a1.lt);have z7:oT a0 ⟨l,7,oN⟩=oM (.map (oM tb)):=Ah.cell o.Aj 7;have z5:oT a0 ⟨l,5,oN⟩=oM (oG (oM ⟨sb,0,oN⟩) n sc):=Ah.cell o.Aj 5;have ar:=QL o.tm cz dm dv;rw[HE.out]at ar;simp only[Option.getD_some,Option.isSome_some]at ar;obtain⟨_,t1⟩:=Mc o.rows b0;simp only at t1;have gj:sb<a0.heap.size:=World.block_lt_of_cell? a0 _ t1;have gl:l<a0.heap.size:=World.block_lt_of_cell? a0 _ z5;clear a4)
            have ai:=Hd (o.trans k _ tl b0 d2);go_region_law (
                 refine ER bG (.tmp 112) (.tmp 116) ?_ ?_ (base:=w.heap.size) (n:=tl.length) (m:=1) (N:=tl.length+1) (v:=oG At tl.length ct) (src:=oG (oM ⟨a0.heap.size,0,oN⟩) 1 1) (xs:=tl.flatMap Bg) (news:=Bg (s,ca)) ?_ ?_ ?_ ?_ ?_ ?_ ?_ ?_ ?_
                 ·rfl
                 ·rfl
                 ·rfl
                 ·rfl
                 ·first|exact(AU ai ((Below.refl _ a0).drew)).alloc _|exact AU (ai.alloc _) ((Below.refl _ _).drew)
                 ·first|exact UF (s,ca) a0.drew|exact UF (s,ca) a0
                 ·rfl
                 ·unfold maxLen;omega
                 ·omega
                 ·have:=o.below.size;simp;omega
                 intro A3 c3 w3 r1 r2 r3;have eg:=Hd r1;have ei:=Hd r2;have ej:=Hd r3;have b3:Ah w3 l 203 (#[oG J g.nt T,oG C g.nn P,oG I g.R.length R,oH oO g.s]++#[oG (oM ⟨gr,0,oN⟩) N N,oG (oM ⟨sb,0,oN⟩) n sc,.map (oM mb),.map (oM tb)]):=by first|exact r2.Aj ((o.Aj.drew).alloc _) (.inr nY)|exact r2.Aj (Ah.drew (o.Aj.alloc _)) (.inr nY)
                 have fr:oT w3 ⟨l,5,oN⟩=oM (oG (oM ⟨sb,0,oN⟩) n sc):=Ah.cell b3 5;have o3:w3.ownsRow w.heap.size 119 2 (oG (oM ⟨sb,0,oN⟩) n sc) n (V2.flatMap Fp):=by first|exact r2.own ((AU o.rows ((Below.refl _ a0).drew)).alloc _) (.inr nY)|exact r2.own (AU (o.rows.alloc _) ((Below.refl _ _).drew)) (.inr nY)
                 have q3:=(Mc o3 b0).2;have f3:=GD o3 (k*2+1);have a9:Hid (Ah w3 gb 47 #[oG J g.nt T,oG C g.nn P,oG I g.R.length R,oH oO g.s]/\gb≠sb):=Hd (by
                  have de:Ah w3 gb 47 #[oG J g.nt T,oG C g.nn P,oG I g.R.length R,oH oO g.s]:=by first|exact r2.Aj ((ab.drew).alloc _) (.inr nY)|exact r2.Aj (Ah.drew (ab.alloc _)) (.inr nY)
                  refine⟨de,fun e=>Du o3 de nY (by rw[e];rfl)⟩)
                 simp only at q3;clear r1 r2 r3 b3 o3)
            all_goals go_wp2_with fail
            all_goals go_roundw
            all_goals first
             | (simp[intOf];omega)
             | (refine⟨s+1,_,_,nX,nX,oD,Hd (o.put b0 d2 ?_ eg ei ej),ae,Hd (a9.1.Bz a9.2 _)⟩;exact⟨rfl,rfl,rfl,oA,fun k hk=>Below.heap_alloc a0 _ _ hk⟩)
          ·have dw:s=N:=by omega
           have fb:¬((s:Int)<=(g.top:Int)):=by have:=HN.out;omega
           have ae:Hid (EL T2 E n (k+1) 1):=Hd ((by rw[<-dw];exact aw:EL T2 E n k N).E0 HR);clear dw;go_wp2_with (
               go_at_call 129;refine bl.mono ?_;rintro e a0 ⟨rfl,a4⟩
               have o:=Hd (af.later a4);have ab:=Hd (a1.below a4 a1.lt);clear a4)
           go_roundw
           case rel=>exact⟨k+1,V2,T2,nX,oD,o,ae,ab⟩
           case measure=>simp[intOf];omega
       · obtain rfl:k=n:=by omega
         have d0:=Hd cp.done;have z5:oT fk ⟨l,5,oN⟩=oM (oG (oM ⟨sb,0,oN⟩) k sc):=Ah.cell al.Aj 5;go_wp2_with fail
         go_ret2
         refine⟨_,V1,rfl,?_,al.below⟩;rw[<-d0.out];refine al.kS (al.Gy (fun a8 hl=>(HS.BR.ok a8 hl).1) (fun t ht=>?_));rw[d0.out]at ht;have:=Pg _ _ _ (HR t ht);omega
def Wg(t:GN w v g){f:Nat}{j i:List (List It)}(ha:g.KD f=oM (j,i)) :
  () 90 #[v] w fun e w'=>∃lv V,e=oQ (.tuple #[lv,oH oO 0])/\FE w' lv V j i/\Below w w w':=by
 refine(RE t ha).mono ?_;rintro e w' ⟨lv,V,l,o,p⟩;exact⟨lv,V,l,o.Gy,p⟩
def G6(l:List Nat):Nat:=l.foldl (fun S x=>S|||2 ^ x) 0
theorem jG(l:List Nat):∀(S j:Nat),(l.foldl (fun S x=>S|||2 ^ x) S).testBit j=(S.testBit j||decide (j∈l)):=by
 induction l with
 | nil=>intro S j;simp
 | cons x l o=>
  intro S j;rw[List.foldl_cons,o,Nat.testBit_or,Nat.testBit_two_pow];by_cases h:x=j
  ·subst h;simp
  ·have i:¬(j=x):=fun e=>h e.symm
   simp[h,i]
def eL(l:S<2 ^ n):G6 (Bs n S)=S:=by
 apply Nat.eq_of_testBit_eq;intro j;unfold G6;rw[jG,Nat.zero_testBit,Bool.false_or];unfold Bs;by_cases i:j<n
 ·cases o:S.testBit j<;>simp[i,o]
 ·rw[show S.testBit j=false from LQ l nX]
  simp[i]
def Xw{x:Nat}(h:x∈Bs n S):x<n:=by unfold Bs at h;exact List.mem_range.1 (List.mem_filter.1 h).1
def Us{s:AH}(h:AQ w s S):∃q:Int,() 187 #[s.v,oH oO 0] w (fun e w'=>e=oQ q/\w'=w)/\(S=0->q<0)/\(S≠0->0<=q):=by
 refine⟨EX s.n S 0,Ox h (i0:=0) nX,fun e=>?_,fun e=>?_⟩
 ·subst e
  rw[Mh (fun j _ _=>Nat.zero_testBit j)];decide
 ·rcases LU (n:=s.n) (S:=S) (s.n-0) 0 rfl with⟨m,l,_⟩|⟨_,o⟩
  ·rw[l];omega
  ·exfalso
   apply e;apply Nat.eq_of_testBit_eq;intro j;rw[Nat.zero_testBit];by_cases i:j<s.n
   ·exact o j (AX _) i
   ·exact LQ h.fit nX
def QX{mb nt cT:Nat}{AT:Option Addr}{lv:oV}{l:List Nat}(h0:oT w (mb,0)=oM (oG AT nt cT))(ab:nt<=120)(hl:BF w lv l)(hx:∀x∈l,x<=nt) :
  () 182 #[(mb,0),lv] w fun e w'=>∃h:AH,e=oQ h.v/\h.n=nt+1/\w.heap.size<=h.h/\w.heap.size<=h.wb/\AQ w' h (G6 l)/\Below w w w':=by
 have a6:Hid (() 184 #[oH oO ((nt:Int)+1)] w fun e w'=>e=oQ (w.heap.size+1,0)/\AQ w' ⟨w.heap.size+1,w.heap.size,nt+1⟩ 0/\Below w w w'):=Hd (Mm (w:=w) (n:=nt+1) nX nX);obtain⟨⟨Al,cl,rfl,T⟩,hs,-⟩:=hl;have HC:=Hd T;have HX:=Hd hx;clear T hx;generalize a1:l.length=j at *;have I:=Hd a1;clear a1;go_enter func182,ntmps182
 go_wp2_with (
    go_at_call 184;refine a6.mono ?_;rintro e w1 ⟨rfl,a2,R⟩
    have a7:=Hd a2;have a4:=Hd R;clear a2 R)
 generalize hz:w.heap.size=z at *;have C:=Hd hz;clear hz;go_loopw [18] (fun ii wr=>∃k:Nat,k<=j/\ii=oH oO k/\Hid (AQ wr ⟨z+1,z,nt+1⟩ (G6 (l.take k)))/\Hid (Below z w wr)) (fun ii _=>j-(intOf ii).toNat)
 case atStart=>exact⟨0,AX _,rfl,Hd (by simpa [G6] using a7.out),a4⟩
 case round=>
  obtain⟨k,hk,rfl,p,o⟩:=hrel;by_cases a9:k<j
  ·obtain⟨x,i⟩:∃x,l[k]?=oM x:=⟨_,eG (by rw[I.out];exact a9)⟩
   obtain⟨b,off,hA,P,a0⟩:=HC k x i;subst hA;have aa:oT wr (b,off+k)=oM (oH oO x):=(o.cell (p:=⟨b,off+k,oN⟩) P).trans a0;have ad:=HX x (mG i);have J:=Hd (M9 p (i:=x) (by show x<nt+1;omega));have t:Hid (G6 (l.take k)|||2 ^ x=G6 (l.take (k+1))):=Hd (by unfold G6;rw[L9 (fun S x=>S|||2 ^ x) l 0 k x i]);unfold AH.v at J;clear i a0 P;go_wp2_with (
     go_at_call 132;refine J.mono ?_;rintro e w2 ⟨rfl,a3,U⟩
     have a8:=Hd a3;have a5:=Hd (o.trans (U.below (by have:=p.words.lt;show z<=wr.heap.size;have:z<wr.heap.size:=this;omega) (fun q hq e=>by have e2:q=z:=e;omega)));clear a3 U)
   go_roundw
   case rel=>exact⟨k+1,nX,oD,Hd (by rw[<-t.out];exact a8),a5⟩
   case measure=>simp[intOf];omega
  ·obtain rfl:k=j:=by omega
   have t:Hid (AQ wr ⟨z+1,z,nt+1⟩ (G6 l)):=Hd (by have h:=p.out;rw[Da (by rw[I.out];omega)]at h;exact h);go_wp2_with fail
   go_ret;exact⟨⟨z+1,z,nt+1⟩,rfl,rfl,by rw[C.out];show z<=z+1;omega,by rw[C.out];exact Ay _,t,by rw[C.out];exact o⟩
def Ss(w:oU)(l o:Nat)(j:AH)(f:Bool)(r:AV×Bool)(e:Ending)(w':oU):Prop:=
 e=oQ (oK r.2)/\∃i,Am (fun k=>k=j.wb) w i/\AQ i j r.1.set/\((w'=i/\r.1.self=f)\/(w'=i.setCell (l,o+2) (oK true)/\r.1.self=true))
def Am.cell(l:Am X w w')(i:b<w.heap.size)(o:¬X b)(j:Nat):w'.cell? (b,j)=oT w (b,j):=World.cell?_of_block (l.block b i o)
def Am.NI(l:Am X w w')(i:b<w.heap.size)(o:¬X b)(j:Nat):w'.frozen? (b,j)=w.frozen? (b,j):=World.frozen?_of_block (l.block b i o)
def jZ{c:AV}(h:i=0):CH false i c own t=(c,false):=by unfold CH;rw[if_pos ⟨rfl,h⟩]
def Sd{c:AV}(h:¬(xs=false/\i=0)):CH xs i c own (S,false)=(⟨c.s,c.set|||S,c.self⟩,(c.set|||S) != c.set):=by unfold CH;rw[if_neg h,if_pos rfl]
def Za{c:AV}(j:c.self=false):CH true i c own (S,true)=(⟨c.s,(c.set|||S)|||(if own then c.set|||S else i),true⟩,true):=by unfold CH;rw[if_neg oA,if_neg oA,if_pos ⟨rfl,j⟩]
def UJ{c:AV}(h:¬(xs=false/\i=0))(j:¬(xs=true/\c.self=false)):CH xs i c own (S,true)=(⟨c.s,(c.set|||S)|||(if own then c.set|||S else i),c.self⟩,(((c.set|||S)|||(if own then c.set|||S else i)) != (c.set|||S))||((c.set|||S) != c.set)):=by unfold CH;rw[if_neg h,if_neg oA,if_neg j]
def fW{mp:oV}{o sx s2:Nat}{p I l:AH}{f emp:Bool}{SX ST aa:Nat}(h1:AQ w p SX)(h2:AQ w I ST)(h3:AQ w l aa)(n1:p.n=l.n)(n2:I.n=l.n)
  (ae:if own then p=l else p.wb≠l.wb) (bk:I.wb≠l.wb) (c1:oT w (j,o+1)=oM l.v) (c2:oT w (j,o+2)=oM (oK f)) (fz:w.frozen? (j,o+2)=false) (a7:j≠l.wb) :
  () 217 #[mp,.agg #[sx,p.v,oK xs],(j,o),.agg #[I.v,oK emp]] w (Ss w j o l f (CH xs SX ⟨s2,aa,f⟩ own (ST,emp))):=by
 have a8:=World.block_lt_of_cell? w _ c1;have ad:=Hd (Ah.new w 274 #[sx,p.v,oK xs]);have a0:=Hd (Ah.new (w.alloc (oP #[sx,p.v,oK xs] 274)) 260 #[I.v,oK emp]);have HW:∃W,W=(w.alloc (oP #[sx,p.v,oK xs] 274)).alloc (oP #[I.v,oK emp] 260):=⟨_,rfl⟩
 have aq:Below w w ((w.alloc (oP #[sx,p.v,oK xs] 274)).alloc (oP #[I.v,oK emp] 260)):=(DM w _).trans ((DM _ _).mono oA);have C:=Hd aq;have an:=Hd (h1.later aq);have aw:=Hd (h2.later aq);have ao:=Hd (h3.later aq);have a9:=Hd (fun y (a:AQ y l aa) (b:AQ y I ST)=>G8 a b n2);have ah:=Hd (fun y (T:Nat) (a:AQ y l T) (U:Nat) (b:AQ y p U)=>G8 a b n1);have av:=Hd (fun y (a:AQ y p SX)=>Ox a (i0:=0) nX);obtain⟨q,hq,ax,ay⟩:∃q:Int,EX p.n SX 0=q/\(SX=0->q<0)/\(SX≠0->¬q<0):=⟨_,rfl,fun e=>by
  subst e;rw[Mh (fun az _ _=>Nat.zero_testBit az)];decide,fun e=>by
  rcases LU (n:=p.n) (S:=SX) (p.n-0) 0 rfl with⟨m,hm,_⟩|⟨_,hz⟩
  ·rw[hm];omega
  ·exfalso
   apply e;apply Nat.eq_of_testBit_eq;intro az;rw[Nat.zero_testBit];by_cases hj:az<p.n
   ·exact hz az (AX _) hj
   ·exact LQ h1.fit nX⟩
 simp only[hq]at av;have bh:=h3.words.lt;have bb:p.h≠l.wb:=h1.head_ne h3;have a6:Hid (¬l.X w.heap.size/\¬l.X (w.heap.size+1)):=Hd ⟨fun e=>by have e2:w.heap.size=l.wb:=e;omega,fun e=>by have e2:w.heap.size+1=l.wb:=e;omega⟩;have ad:=Hd (ad.alloc (oP #[I.v,oK emp] 260));clear hq aq h1 h2 h3 HW a9 ah bh;cases xs with
 | false=>
  by_cases hz:SX=0
  ·rw[jZ hz]
   have bf:=ax hz;clear ax ay;unfold AH.v at *;go_enter func217,ntmps217
   go_wp2_with (go_at_call 187;refine(av _ an).mono ?_;rintro e w1 ⟨rfl,rfl⟩)
   go_ret;exact⟨rfl,_,Am.AJ C,ao,.inl ⟨rfl,rfl⟩⟩
  ·have bf:=ay hz
   clear ax ay;obtain⟨T,hT⟩:∃T,aa|||ST=T:=⟨_,rfl⟩
   obtain⟨b1,aj⟩:∃b,(T != aa)=b:=⟨_,rfl⟩
   have a9:=Hd (fun y (a:AQ y l aa) (b:AQ y I ST)=>G8 a b n2);simp only[hT,aj]at a9;have HT:=Hd (And.intro hT aj);clear hT aj;cases emp with
   | false=>
    rw[Sd (fun h=>hz h.2)];simp only;rw[HT.1,HT.2];unfold AH.v at *;go_enter func217,ntmps217
    go_upto_region 3 with(go_at_call 187;refine(av _ an).mono ?_;rintro e w1 ⟨rfl,rfl⟩)
    generalize hW:(w.alloc (oP #[sx,(p.h,0),oK false] 274)).alloc (oP #[(I.h,0),oK false] 260)=W at *;have c1:=(C.cell (p:=⟨j,o+1,oN⟩) a8).trans c1;have z0:=Ah.cell a0 0;have z1:=Ah.cell a0 1;have zl:=Ah.lt a0;simp at z0 z1 zl;have ag:=Hd (Am.AJ (X:=fun k=>k=l.wb) C);generalize a5:w.heap.size=J at *;have b5:=Hd a5;clear hW a5;go_region_law (first|(
        go_simp;go_at_call 189;refine(a9 _ (ao.later ((Below.refl _ W).drew)) (aw.later ((Below.refl _ W).drew))).mono ?_;rintro e t ⟨rfl,R,i⟩;have ba:=(i.cell (b:=J+1) (w:=W.drew) zl (a6.2) 1).trans z1;have ai:=Hd R;have af:=Hd i;clear R i))
    all_goals go_wp2_with fail
    all_goals go_ret
    all_goals exact⟨rfl,t,ag.next ((Am.AJ ((Below.refl _ W).drew)).next af),ai,.inl ⟨rfl,rfl⟩⟩
   | true=>
    obtain⟨U,P⟩:∃U,(if own then T else SX)=U:=⟨_,rfl⟩
    obtain⟨b2,ak⟩:∃b,(T|||U != T)=b:=⟨_,rfl⟩
    have ah:=Hd (fun y (a:AQ y l T) (b:AQ y p U)=>G8 a b n1);simp only[ak]at ah;have HU:Hid (∀y y',AQ y p SX->AQ y' l T->Am l.X y y'->AQ y' p U):=Hd (fun y y' a1 a2 a3=>by
     cases own with
     | true=>rw[if_pos rfl]at P ae;rw[<-P,ae];exact a2
     | false=>rw[if_neg oA]at P ae;rw[<-P];exact a1.AA a3 bb ae)
    have al:=Hd (And.intro P ak);clear P ak;cases b2<;>cases f
    all_goals (
     rw[UJ (fun h=>hz h.2) oA];simp only;rw[HT.1,al.1];rw[al.2,HT.2];unfold AH.v at *;go_enter func217,ntmps217
     go_upto_region 3 with(go_at_call 187;refine(av _ an).mono ?_;rintro e w1 ⟨rfl,rfl⟩)
     generalize hW:(w.alloc (oP #[sx,(p.h,0),oK false] 274)).alloc (oP #[(I.h,0),oK true] 260)=W at *;have c1:=(C.cell (p:=⟨j,o+1,oN⟩) a8).trans c1;have c2:=(C.cell (p:=⟨j,o+2,oN⟩) a8).trans c2;have fz:=(World.frozen?_of_block (a:=⟨j,o+2,oN⟩) (C.block j a8)).trans fz;have ab:j<W.heap.size:=A0 a8 C.size;have z0:=Ah.cell a0 0;have z1:=Ah.cell a0 1;have zl:=Ah.lt a0;have y1:=Ah.cell ad 1;have y2:=Ah.cell ad 2;have yl:=Ah.lt ad;simp at z0 z1 zl y1 y2
     have ag:=Hd (Am.AJ (X:=fun k=>k=l.wb) C);generalize a5:w.heap.size=J at *;have b5:=Hd a5;clear hW a5;go_region_law (first|(
         go_simp;go_at_call 189;refine(a9 _ (ao.later ((Below.refl _ W).drew)) (aw.later ((Below.refl _ W).drew))).mono ?_;rintro e t ⟨rfl,R,i⟩;have b3:=Hd (HU _ _ (an.later ((Below.refl _ W).drew)) R i);have ba:=(i.cell (b:=J+1) (w:=W.drew) zl (a6.2) 1).trans z1;have bi:=(i.cell (b:=J) (w:=W.drew) yl (a6.1) 1).trans y1;have b8:=(i.cell (b:=J) (w:=W.drew) yl (a6.1) 2).trans y2;have bc:=(i.cell (b:=j) (w:=W.drew) ab a7 (o+1)).trans c1;have b6:=(i.cell (b:=j) (w:=W.drew) ab a7 (o+2)).trans c2;have b7:=(i.NI (b:=j) (w:=W.drew) ab a7 (o+2)).trans fz
         have b9:J<t.heap.size:=A0 yl i.size;have au:j<t.heap.size:=A0 ab i.size;have ai:=Hd R;have af:=Hd i;clear R i))
     all_goals go_upto_region 6 with fail
     all_goals (
      first|(go_region_law (first|(
           go_simp;go_at_call 189;refine(ah _ (ai.later ((Below.refl _ t).drew)) (b3.later ((Below.refl _ t).drew))).mono ?_;rintro e w5 ⟨rfl,ar,a4⟩;have bj:=(a4.cell (b:=J) (w:=t.drew) b9 (a6.1) 2).trans b8;have bd:=(a4.cell (b:=j) (w:=t.drew) au a7 (o+2)).trans b6;have be:=(a4.NI (b:=j) (w:=t.drew) au a7 (o+2)).trans b7;have b4:=Hd ar;have b0:=Hd a4;clear ar a4)))|fail)
     all_goals go_wp2_with fail
     all_goals go_ret
     all_goals exact⟨by first|rfl|exact OQ oA,w5,ag.next ((Am.AJ ((Below.refl _ W).drew)).next (af.next ((Am.AJ ((Below.refl _ t).drew)).next b0))),b4,.inl ⟨rfl,rfl⟩⟩)
 | true=>
  clear ax ay;obtain⟨T,hT⟩:∃T,aa|||ST=T:=⟨_,rfl⟩
  obtain⟨b1,aj⟩:∃b,(T != aa)=b:=⟨_,rfl⟩
  have a9:=Hd (fun y (a:AQ y l aa) (b:AQ y I ST)=>G8 a b n2);simp only[hT,aj]at a9;have HT:=Hd (And.intro hT aj);clear hT aj;cases emp with
  | false=>
   rw[Sd oA];simp only;rw[HT.1,HT.2];unfold AH.v at *;go_enter func217,ntmps217
   go_upto_region 3 with fail
   generalize hW:(w.alloc (oP #[sx,(p.h,0),oK true] 274)).alloc (oP #[(I.h,0),oK false] 260)=W at *;have c1:=(C.cell (p:=⟨j,o+1,oN⟩) a8).trans c1;have z0:=Ah.cell a0 0;have z1:=Ah.cell a0 1;have zl:=Ah.lt a0;simp at z0 z1 zl;have ag:=Hd (Am.AJ (X:=fun k=>k=l.wb) C);generalize a5:w.heap.size=J at *;have b5:=Hd a5;clear hW a5;go_region_law (first|(
       go_simp;go_at_call 189;refine(a9 _ (ao.later ((Below.refl _ W).drew)) (aw.later ((Below.refl _ W).drew))).mono ?_;rintro e t ⟨rfl,R,i⟩;have ba:=(i.cell (b:=J+1) (w:=W.drew) zl (a6.2) 1).trans z1;have ai:=Hd R;have af:=Hd i;clear R i))
   all_goals go_wp2_with fail
   all_goals go_ret
   all_goals exact⟨rfl,t,ag.next ((Am.AJ ((Below.refl _ W).drew)).next af),ai,.inl ⟨rfl,rfl⟩⟩
  | true=>
   obtain⟨U,P⟩:∃U,(if own then T else SX)=U:=⟨_,rfl⟩
   obtain⟨b2,ak⟩:∃b,(T|||U != T)=b:=⟨_,rfl⟩
   have ah:=Hd (fun y (a:AQ y l T) (b:AQ y p U)=>G8 a b n1);simp only[ak]at ah;have HU:Hid (∀y y',AQ y p SX->AQ y' l T->Am l.X y y'->AQ y' p U):=Hd (fun y y' a1 a2 a3=>by
    cases own with
    | true=>rw[if_pos rfl]at P ae;rw[<-P,ae];exact a2
    | false=>rw[if_neg oA]at P ae;rw[<-P];exact a1.AA a3 bb ae)
   have al:=Hd (And.intro P ak);clear P ak;cases b2<;>cases f
   all_goals (
    first|rw[Za rfl]|rw[UJ oA oA]
    simp only;first|(rw[HT.1,al.1];rw[al.2,HT.2])|rw[HT.1,al.1]
    unfold AH.v at *;go_enter func217,ntmps217
    go_upto_region 3 with fail
    generalize hW:(w.alloc (oP #[sx,(p.h,0),oK true] 274)).alloc (oP #[(I.h,0),oK true] 260)=W at *;have c1:=(C.cell (p:=⟨j,o+1,oN⟩) a8).trans c1;have c2:=(C.cell (p:=⟨j,o+2,oN⟩) a8).trans c2;have fz:=(World.frozen?_of_block (a:=⟨j,o+2,oN⟩) (C.block j a8)).trans fz;have ab:j<W.heap.size:=A0 a8 C.size;have z0:=Ah.cell a0 0;have z1:=Ah.cell a0 1;have zl:=Ah.lt a0;have y1:=Ah.cell ad 1;have y2:=Ah.cell ad 2;have yl:=Ah.lt ad;simp at z0 z1 zl y1 y2
    have ag:=Hd (Am.AJ (X:=fun k=>k=l.wb) C);generalize a5:w.heap.size=J at *;have b5:=Hd a5;clear hW a5;go_region_law (first|(
        go_simp;go_at_call 189;refine(a9 _ (ao.later ((Below.refl _ W).drew)) (aw.later ((Below.refl _ W).drew))).mono ?_;rintro e t ⟨rfl,R,i⟩;have b3:=Hd (HU _ _ (an.later ((Below.refl _ W).drew)) R i);have ba:=(i.cell (b:=J+1) (w:=W.drew) zl (a6.2) 1).trans z1;have bi:=(i.cell (b:=J) (w:=W.drew) yl (a6.1) 1).trans y1;have b8:=(i.cell (b:=J) (w:=W.drew) yl (a6.1) 2).trans y2;have bc:=(i.cell (b:=j) (w:=W.drew) ab a7 (o+1)).trans c1;have b6:=(i.cell (b:=j) (w:=W.drew) ab a7 (o+2)).trans c2;have b7:=(i.NI (b:=j) (w:=W.drew) ab a7 (o+2)).trans fz
        have b9:J<t.heap.size:=A0 yl i.size;have au:j<t.heap.size:=A0 ab i.size;have ai:=Hd R;have af:=Hd i;clear R i))
    all_goals go_upto_region 6 with fail
    all_goals (
     first|(go_region_law (first|(
          go_simp;go_at_call 189;refine(ah _ (ai.later ((Below.refl _ t).drew)) (b3.later ((Below.refl _ t).drew))).mono ?_;rintro e w5 ⟨rfl,ar,a4⟩;have bj:=(a4.cell (b:=J) (w:=t.drew) b9 (a6.1) 2).trans b8;have bd:=(a4.cell (b:=j) (w:=t.drew) au a7 (o+2)).trans b6;have be:=(a4.NI (b:=j) (w:=t.drew) au a7 (o+2)).trans b7;have b4:=Hd ar;have b0:=Hd a4;clear ar a4)))|fail)
    all_goals go_wp2_with fail
    all_goals go_ret
    all_goals exact⟨by first|rfl|exact OQ oA,w5,ag.next ((Am.AJ ((Below.refl _ W).drew)).next (af.next ((Am.AJ ((Below.refl _ t).drew)).next b0))),b4,by first|exact .inl ⟨rfl,rfl⟩|exact .inr ⟨rfl,rfl⟩⟩)
theorem Q6{p:Nat->Prop}(h:∃n,p n):∃n,p n/\∀m,p m->n<=m:=by
 obtain⟨n,o⟩:=h;induction n using Nat.strongRecOn with
 | _ n C=>
  by_cases l:∃m,m<n/\p m
  ·obtain⟨m,j,t⟩:=l
   exact C m j t
  ·exact⟨n,o,fun m j=>by
    rcases Nat.lt_or_ge m n with i|i
    ·exact absurd ⟨m,i,j⟩ l
    ·exact i⟩
theorem SK{l:Nat}{i:Act->oU->Prop}(j:∀a w,J a w->i a w):∀(e:Exit) (a:Act) (w:oU),Exit.jump l J Q e a w->Exit.jump l i Q e a w:=by
 intro e a w h;cases e with
 | goto o=>exact⟨h.1,j _ _ h.2⟩
 | _=>exact h
def Ti{l:Nat}{a:Act}(h:J a w):Exit.jump l J Q (.goto l) a w:=⟨rfl,h⟩
def Vz{P:Program}{c rest:Code}{a:Act}(l:Nat)(J:Nat->Act->oU->Prop)(I:findLabel c l=oM (Code.skip.seq rest))
  (pass:∀n a w,J n a w->rest.wp P (Exit.jump l (fun i w'=>∃m,m<n/\J m i w') Q) a w)
  (first:(∀n a w,J n a w->rest.wp P (Exit.jump l (fun i w'=>∃m,J m i w') Q) a w)->c.wp P (Exit.jump l (fun i w'=>∃m,J m i w') Q) a w):(Code.scope c).wp P Q a w:=by
 classical
 have j:∃o:Act->oU->Nat,∀a w,(∃n,J n a w)->J (o a w) a w/\∀m,J m a w->o a w<=m:=
  ⟨fun a w=>if h:∃n,J n a w then Classical.choose (Q6 h) else 0,fun a w h=>by simp only[dif_pos h];exact Classical.choose_spec (Q6 h)⟩
 obtain⟨o,j⟩:=j;refine wp_scope_jumps l (fun a w=>∃n,J n a w) o I (first fun n a w h=>Code.wp_mono (SK fun i w' ⟨m,_,t⟩=>⟨m,t⟩) (pass n a w h)) ?_;intro a w h;refine wp_seq (wp_skip ?_);obtain⟨C,R⟩:=j a w h;show rest.wp P _ a w;exact Code.wp_mono (SK fun i w' ⟨m,t,p⟩=>⟨⟨m,p⟩,Nat.lt_of_le_of_lt ((j i w' ⟨m,p⟩).2 m p) t⟩) (pass _ a w C)
def Ca(A:Nat->Prop)(w:oU)(v:oV)(l:List Nat):Prop:=BF w v l/\∀b,v.ownBlock=oM b->0<l.length->A b
def Ca.AA{l:List Nat}(h:Ca A w v l)(o:Am X w w')(P:∀b,A b->¬X b):Ca A w' v l:=by obtain⟨⟨⟨I,c,t,R⟩,hs,U⟩,j⟩:=h;refine⟨⟨⟨I,c,t,fun k x C=>?_⟩,hs,U⟩,j⟩;obtain⟨b,off,i,p,T⟩:=R k x C;have hk:=(sG.1 C).1;have J:=P b (j b (by rw[t,i];rfl) nX);exact⟨b,off,i,A0 p o.size,(o.cell p J _).trans T⟩
def Ca.at_{i:Option Addr}{l:List Nat}(h:Ca A w (oG i n c) l){x:Nat}(o:l[k]?=oM x):∃b off,i=oM ⟨b,off,oN⟩/\A b/\b<w.heap.size/\oT w ⟨b,off+k,oN⟩=oM (oH oO x):=by
 obtain⟨⟨⟨P,R,J,t⟩,hs,U⟩,p⟩:=h;cases J
 obtain⟨b,off,j,I,C⟩:=t k x o;have T:=(sG.1 o).1;exact⟨b,off,j,p b (by rw[j];rfl) nX,I,C⟩
def Ca.shape{l:List Nat}(h:Ca A w v l):∃i c,v=oG i l.length c:=by obtain⟨⟨⟨i,c,j,_⟩,_,_⟩,_⟩:=h;exact⟨i,c,j⟩
def IP(A:Nat->Prop)(w:oU)(h:AH)(S:Nat):Prop:=AQ w h S/\A h.h/\A h.wb
def IP.AA{h:AH}(i:IP A w h S)(l:Am X w w')(j:∀b,A b->¬X b):IP A w' h S:=⟨i.1.AA l (j _ i.2.1) (j _ i.2.2),i.2⟩
def Bq(A:Nat->Prop)(w:oU)(v:oV)(n:Nat)(sz:Nat)(f:Nat->Nat->oV->Prop):Prop:=
 ∃i c,v=oG i n c/\n<=c/\n<=1000000/\∀k,k<n->∃b off,i=oM ⟨b,off,oN⟩/\A b/\b<w.heap.size/\∀j,j<sz->∃x,oT w ⟨b,off+k*sz+j,oN⟩=oM x/\f k j x
def Bq.AA{sz:Nat}{f f':Nat->Nat->oV->Prop}(h:Bq A w v n sz f)(l:Am X w w')(P:∀b,A b->¬X b)(T:∀k j x,k<n->j<sz->f k j x->f' k j x):Bq A w' v n sz f':=by obtain⟨C,c,hv,hn,U,hr⟩:=h;refine⟨C,c,hv,hn,U,fun k p=>?_⟩;obtain⟨b,off,R,i,t,hx⟩:=hr k p;refine⟨b,off,R,i,A0 t l.size,fun j o=>?_⟩;obtain⟨x,I,J⟩:=hx j o;exact⟨x,(l.cell t (P b i) _).trans I,T k j x p o J⟩
def Dq(A:Nat->Prop)(w:oU)(v:oV)(n:Nat)(f:Nat->List Nat):Prop:=Bq A w v n 1 (fun k _ x=>Ca A w x (f k))
def Dq.AA(h:Dq A w v n f)(l:Am X w w')(i:∀b,A b->¬X b):Dq A w' v n f:=Bq.AA h l i (fun k j x _ _ o=>o.AA l i)
def Dq.at_(h:Dq A w v n f)(t:k<n):∃b off c i c2,v=oG (oM ⟨b,off,oN⟩) n c/\b<w.heap.size/\oT w ⟨b,off+k,oN⟩=oM (oG i (f k).length c2)/\Ca A w (oG i (f k).length c2) (f k):=by obtain⟨i,c,J,hn,U,I⟩:=h;obtain⟨b,off,p,T,C,R⟩:=I k t;obtain⟨x,j,l⟩:=R 0 nX;obtain⟨o,c2,P⟩:=l.shape;subst P;refine⟨b,off,c,o,c2,by rw[J,p],C,?_,l⟩;rw[Nat.mul_one,Nat.add_zero]at j;exact j
def Fl(A:Nat->Prop)(w:oU)(m:Nat)(v:oV)(l:List (Nat×Bool)):Prop:=
 Bq A w v l.length 2 (fun d j x=>if j=0 then ∃h:AH,x=h.v/\h.n=m/\IP A w h (l.getD d (0,false)).1 else x=oK (l.getD d (0,false)).2)
def Fl.AA(h:Fl A w m v l)(t:Am X w w')(p:∀b,A b->¬X b):Fl A w' m v l:=Bq.AA h t p (fun k j x _ _ o=>by
 split at o
 ·rename_i i
  rw[if_pos i];obtain⟨h,C,I,J⟩:=o;exact⟨h,C,I,J.AA t p⟩
 ·rename_i i
  rw[if_neg i];exact o)
def F8(A:Nat->Prop)(w:oU)(m:Nat)(v:oV)(n:Nat)(T:List (List (Nat×Bool))):Prop:=Bq A w v n 1 (fun k _ x=>Fl A w m x (T.getD k []))
def F8.AA(h:F8 A w m v n T)(l:Am X w w')(i:∀b,A b->¬X b):F8 A w' m v n T:=Bq.AA h l i (fun k j x _ _ o=>o.AA l i)
def Fl.at_(h:Fl A w m v l){d:Nat}(C:l[d]?=oM t):∃b off c,∃i:AH,v=oG (oM ⟨b,off,oN⟩) l.length c/\(A b/\b<w.heap.size)/\oT w ⟨b,off+d*2,oN⟩=oM i.v/\oT w ⟨b,off+d*2+1,oN⟩=oM (oK t.2)/\i.n=m/\IP A w i t.1:=by
 obtain⟨R,a1⟩:=sG.1 C;have T:l.getD d (0,false)=t:=by rw[dG,C];rfl
 obtain⟨Ad,c,hv,hn,hm,hr⟩:=h;obtain⟨b,off,J,P,U,I⟩:=hr d R;obtain⟨x0,h0,i,rfl,a0,p⟩:=I 0 nX;obtain⟨x1,o,j⟩:=I 1 nX;have j:x1=oK (l.getD d (0,false)).2:=j;rw[T]at p j;exact⟨b,off,c,i,by rw[hv,J],⟨P,U⟩,h0,by rw[j]at o;exact o,a0,p⟩
def Fl.shape(h:Fl A w m v l):∃i c,v=oG i l.length c:=by obtain⟨i,c,j,_⟩:=h;exact⟨i,c,j⟩
def F8.at_(h:F8 A w m v n T)(p:k<n):∃b off c x,v=oG (oM ⟨b,off,oN⟩) n c/\(A b/\b<w.heap.size)/\oT w ⟨b,off+k,oN⟩=oM x/\Fl A w m x (T.getD k []):=by obtain⟨P,c,I,U,R,C⟩:=h;obtain⟨b,off,l,o,t,J⟩:=C k p;obtain⟨x,i,j⟩:=J 0 nX;refine⟨b,off,c,x,by rw[I,l],⟨o,t⟩,?_,j⟩;rw[Nat.mul_one,Nat.add_zero]at i;exact i
def DW(A:Nat->Prop)(w:oU)(m:Nat)(v:oV)(l:List AV):Prop:=
 Bq A w v l.length 3 (fun d j x=>if j=0 then x=oH oO ((l.getD d ⟨0,0,false⟩).s:Nat) else if j=1 then ∃h:AH,x=h.v/\h.n=m/\IP A w h (l.getD d ⟨0,0,false⟩).set else x=oK (l.getD d ⟨0,0,false⟩).self)
def DW.AA{l:List AV}(h:DW A w m v l)(C:Am X w w')(t:∀b,A b->¬X b):DW A w' m v l:=Bq.AA h C t (fun k j x _ _ i=>by
 split at i
 ·rename_i o
  rw[if_pos o];exact i
 ·rename_i o
  rw[if_neg o];split at i
  ·rename_i p
   rw[if_pos p];obtain⟨h,I,J,P⟩:=i;exact⟨h,I,J,P.AA C t⟩
  ·rename_i p
   rw[if_neg p];exact i)
def Jg(A:Nat->Prop)(w:oU)(m:Nat)(v:oV)(n:Nat)(i:List (List AV)):Prop:=Bq A w v n 1 (fun k _ x=>DW A w m x (i.getD k []))
def Jg.AA{i:List (List AV)}(h:Jg A w m v n i)(o:Am X w w')(l:∀b,A b->¬X b):Jg A w' m v n i:=Bq.AA h o l (fun k j x _ _ p=>p.AA o l)
def Old(n:Nat)(b:Nat):Prop:=b<n
