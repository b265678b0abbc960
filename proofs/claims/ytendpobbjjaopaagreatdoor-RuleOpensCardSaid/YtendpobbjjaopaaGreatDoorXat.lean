/- . -/
import Derived.Test.YtendpobbjjaopaaGreatDoorXas
import Derived.Test.YtendpobbjjaopaaGreatDoorXap
set_option linter.all false
set_option maxRecDepth 100000
set_option maxHeartbeats 16000000
namespace Go.Proofs.YtendpobbjjaopaaGreatDoor
open Go.RowKit
open Value renaming slice→oG,int→oH,bool→oK
open Option renaming some→oM,none→oN
open IntKind renaming i64→oO
open Obj renaming cells→oP
open Ending renaming returned→oQ
open World renaming cell?→oT
open Go renaming World→oU,Value→oV
variable{w:oU}{v:oV}{C l:List Nat}{j:List (List AV)}{g:Gz}{T:List (List (Nat×Bool))}
def ZE(h:BF w v l)(hl:l.length<=1000000)(s:Nat) :
  () 136 #[v,s] w fun e w'=>∃r:Int,e=oQ r/\(0<=r<->s∈l)/\w'=w:=by
 obtain⟨⟨Ad,c,rfl,U⟩,-,-⟩:=h;obtain⟨n,t⟩:∃n,l.length=n:=⟨_,rfl⟩
 have HC:=Hd U;have P:=Hd t;rw[t]at hl ⊢;clear U t;go_enter Tryz.func136,Tryz.ntmps136
 go_wp2_with fail
 go_loopw [8] (fun ii wr=>∃k:Nat,k<=n/\ii=oH oO k/\Hid (wr=w/\∀j,j<k->l[j]?≠oM s)) (fun ii _=>n-(intOf ii).toNat)
 case atStart=>exact⟨0,AX _,rfl,Hd ⟨rfl,fun j o=>by omega⟩⟩
 case round=>
  obtain⟨k,hk,rfl,I⟩:=hrel;obtain⟨hw,T⟩:=I.out;have a2:=hw.symm;subst a2;clear hw;have J:=Hd T;clear T I;by_cases a0:k<n
  ·obtain⟨x,C⟩:∃x,l[k]?=oM x:=⟨_,eG (by rw[P.out];exact a0)⟩
   obtain⟨b,off,rfl,a3,d0⟩:=HC k x C;unfold AY at d0;have R:=Hd C;clear C;by_cases i:x=s
   ·have a1:((s:Int)==(x:Int))=true:=by rw[i];simp
    have p:=Hd i;clear i;go_wp2_with fail
    go_ret;exact⟨_,rfl,⟨fun _=>mG (by rw[<-p.out];exact R),fun _=>by omega⟩,rfl⟩
   ·have a1:((s:Int)==(x:Int))=false:=by rw[bN];omega
    have p:=Hd i;clear i;go_wp2_with fail
    go_roundw
    case rel=>exact⟨k+1,nX,oD,Hd ⟨trivial,fun j o=>by
     by_cases e:j=k
     ·rw[e,R.out]
      intro h;exact p (Option.some.inj h)
     ·exact J j nX⟩⟩
    case measure=>simp[intOf];omega
  ·obtain rfl:k=n:=by omega
   go_wp2_with fail
   go_ret;refine⟨_,rfl,⟨fun h=>by omega,fun h=>?_⟩,rfl⟩;obtain⟨j,o,e⟩:=List.mem_iff_getElem.1 h;exact absurd (by rw[eG o,e]) (J j (by rw[<-P.out];exact o))
def O7(h:BF w v l)(t:l.length<=1000000)(s:Nat) :
  () 94 #[v,s] w fun e w'=>e=oQ (oK (decide (s∈l)))/\w'=w:=by
 have j:=Hd (ZE h t s);obtain⟨⟨C,c,rfl,p⟩,-,-⟩:=h;clear p;go_enter Tryz.func94,Tryz.ntmps94
 go_wp2_with (go_at_call 136;refine j.mono ?_;rintro e w' ⟨r,rfl,i,rfl⟩;have o:=Hd i;clear i)
 go_ret;refine⟨?_,rfl⟩;exact congrArg (fun b=>Ending.returned (oK b)) (decide_eq_decide.2 o)
def IH(z:AH×(Nat×Bool)):List oV:=[z.1.v,oK z.2.2]
structure Gp(w1 wr:oU)(m:Nat)(sv:oV)(Z:List (AH×(Nat×Bool))):Prop where
 below:Below w1 w1 wr
 row:wr.ownsRow w1 260 2 sv Z.length (Z.flatMap IH)
 O1:∀z∈Z,AQ wr z.1 z.2.1/\z.1.n=m/\w1.heap.size<=z.1.h/\w1.heap.size<=z.1.wb
variable{wr:oU}{m:Nat}{Z:List (AH×(Nat×Bool))}
def Gp.start(i:oU)(m:Nat):Gp i i m (oG oN 0 0) []:=⟨Below.refl _ _,⟨rfl,.inl ⟨rfl,rfl⟩⟩,fun z j=>by cases j⟩
def Gp.later{l w2:oU}{j:oV}(h:Gp l wr m j Z)(i:Below wr wr w2):Gp l w2 m j Z:=
 ⟨h.below.trans (i.mono h.below.size),AU h.row i,fun z o=>by obtain⟨a,b⟩:=h.O1 z o;exact⟨a.later i,b⟩⟩
def Gp.more{i w2 o:oU}{R:oV}(h:Gp i w2 m R Z){t:AH}{S:Nat}{e:Bool}(I:AQ w2 t S)(C:t.n=m)(p:i.heap.size<=t.h/\i.heap.size<=t.wb){A:Option Addr}{c:Nat}
  (P:o.ownsRow i 260 2 (oG A (Z.length+1) c) (Z.length+1) (Z.flatMap IH++IH (t,(S,e)))) (l:AI i [260] w2 o):Gp i o m (oG A (Z.length+1) c) (Z++[(t,(S,e))]):=by
 refine⟨h.below.trans (l.below h.below.size),?_,fun z J=>?_⟩
 ·rw[List.flatMap_append,Cb]
  simpa using P
 ·rcases mA.1 J with j|j
  ·obtain⟨a,b⟩:=h.O1 z j
   exact⟨a.keeps l nY nY,b⟩
  ·rw[mS.1 j]
   exact⟨I.keeps l nY nY,C,p⟩
def Gp.jX{R:oU}{lo:Nat}{P:oV}(h:Gp R wr m P Z)(a2:lo<=R.heap.size)(J:Z.length<=1000000):Fl (Kx lo wr.heap.size wr) wr m P (Z.map (·.2)):=by
 unfold Fl;rw[lM];rcases Bj h.row with⟨I,l⟩|⟨b,c,rfl,I,l,U,_,a1,hb⟩
 ·exact⟨oN,0,by rw[I,l],nX,J,fun k o=>by omega⟩
 ·refine⟨_,c,rfl,U,J,fun k o=>⟨b,0,rfl,⟨nX,l,_,_,hb,.inl rfl⟩,l,fun j hj=>?_⟩⟩
  obtain⟨z,p⟩:∃z,Z[k]?=oM z:=⟨_,eG o⟩
  obtain⟨_,a0⟩:=sG.1 p;have hg:(Z.map (·.2)).getD k (0,false)=z.2:=by rw[dG,pG,p];rfl
  have t:=CP IH 2 (fun _=>rfl) Z k 0 o nX;have C:=CP IH 2 (fun _=>rfl) Z k 1 o nX;rw[a0]at t C;obtain⟨i,T,a3,a4⟩:=h.O1 z (mG p);show ∃x,oT wr (b,0+k*2+j)=oM x/\(if j=0 then ∃h:AH,x=h.v/\h.n=m/\IP (Kx lo wr.heap.size wr) wr h ((Z.map (·.2)).getD k (0,false)).1 else x=oK ((Z.map (·.2)).getD k (0,false)).2)
  rw[hg,Nat.zero_add]
  match j,hj with
  | 0,_=>exact⟨z.1.v,by rw[Bh h.row _ nX,t];rfl,z.1,rfl,T,i,⟨nX,i.head.lt,_,_,i.head,.inr (.inl rfl)⟩,⟨nX,i.words.lt,_,_,i.words,.inr (.inr rfl)⟩⟩
  | 1,_=>exact⟨oK z.2.2,by rw[Bh h.row _ nX,C];rfl,rfl⟩
theorem Sa{E n:Nat}{C:List Nat}:∀(l:List Nat) (S:Nat),(∀i,C.getD i 0<2 ^ n)->S<2 ^ n->(Dr E C l S).1<2 ^ n
 | [],S,_,h=>h
 | x::l,S,o,h=>by
  unfold Dr;have j:=Nat.or_lt_two_pow h (o x);split
  ·exact Sa l _ o j
  ·exact j
theorem BC.kP{t:oU}{F:Fs}{E:Nat}(h:BC t wr F g E C)(l:List Nat):(Dr E C l 0).1<2 ^ (g.nt+1):=by
 refine Sa l 0 (fun i=>?_) (Nat.two_pow_pos _);cases j:F.P[i]? with
 | none=>have:=List.getElem?_eq_none_iff.1 j;rw[dG,nG (by rw[<-h.AM.len];exact this)];exact Nat.two_pow_pos _
 | some p=>have o:=(h.AM.at_ i p j).fit;rw[h.AM.room p (mG j)]at o;exact o
theorem Np{g:Gz}{T:List (List (Nat×Bool))}:∀(N:Nat) (i:List (List AV)),g.Di T N=oM i->i.length=N/\∀k,k<=N->g.Di T k=oM (i.take k)
 | 0,i,h=>by
  unfold Gz.Di at h;cases h
  exact⟨rfl,fun k t=>by
       obtain rfl:k=0:=by omega
       rfl⟩
 | N+1,i,h=>by
  have h0:=h;unfold Gz.Di at h;cases j:g.Di T N with
  | none=>rw[j]at h;cases h
  | some l=>
   rw[j]at h;obtain⟨o,p⟩:=Np N l j;obtain⟨x,rfl⟩:∃x,i=l++[x]:=by
    simp only at h;split at h
    ·cases h;exact⟨_,rfl⟩
    ·split at h
     ·cases h
     ·cases h;exact⟨_,rfl⟩
   refine⟨by simp[o],fun k t=>?_⟩;by_cases C:k=N+1
   ·subst C
    rw[Da (by simp[o])];exact h0
   ·rw[List.take_append_of_le_length nX]
    exact p k nX
theorem YX{N s:Nat}(h:g.Di T N=oM j)(C:g.nt<s)(I:s<N):g.J9 T s=oM (j.getD s []):=by
 obtain⟨J,p⟩:=Np N j h;have i:=p (s+1) nX;unfold Gz.Di at i;rw[p s nX]at i;simp only at i;rw[if_neg nX]at i;cases t:g.J9 T s with
 | none=>rw[t]at i;cases i
 | some r=>rw[t]at i;have o:=congrArg (fun l=>l[s]?) (Option.some.inj i);rw[List.getElem?_append_right oC,List.getElem?_take_of_lt nX,List.length_take]at o;rw[show s-min s j.length=0 by omega]at o;rw[dG,<-o];rfl
def cP{N s:Nat}(h:g.Di T N=oM j)(t:s<=g.nt):j.getD s []=[]:=by
 obtain⟨I,p⟩:=Np N j h;rw[dG];by_cases C:s<N
 ·have i:=p (s+1) nX
  unfold Gz.Di at i;rw[p s nX]at i;simp only at i;rw[if_pos t]at i;have o:=congrArg (fun l=>l[s]?) (Option.some.inj i);rw[List.getElem?_append_right oC,List.getElem?_take_of_lt nX,List.length_take]at o;rw[show s-min s j.length=0 by omega]at o;rw[<-o];rfl
 ·rw[nG nX]
  rfl
def DW.Jj(A:Nat->Prop)(w:oU)(m:Nat):DW A w m (oG oN 0 0) []:=⟨oN,0,rfl,Ay _,oA,fun k i=>by simp at i⟩
def OI(i w:oU)(mb:Nat)(v lv I C ev J:oV)(g:Gz)(T:List (List (Nat×Bool)))(t:List (List AV))(e:Ending)(w':oU):Prop:=
 e=oQ (.tuple #[])/\Below i i w'/\w.heap.size<=w'.heap.size/\Am (·=mb) w w'/\∃l o p j,Ah w' mb 217 (Et v lv l o p j I C ev J) /\
  Dq (Hp i w w') w' l (g.R.length+1) g.right/\F8 (Hp i w w') w' (g.nt+1) o (g.R.length+1) T/\Dq (Hp i w w') w' p (g.top+1) g.CJ/\Jg (Hp i w w') w' (g.nt+1) j (g.top+1) t
def fS{P:oU}{mb:Nat}{lv fe ad bv av ev fv:oV}{f E:Nat}{CC:List (List AV)}(b3:GN P v g)(bh:Below P P w)(eo:P.heap.size<=mb)(az:Ah w mb 217 (Et v lv (oG oN 0 0) (oG oN 0 0) fe ad bv av ev fv))(hf:Lp g f=oM (E,C))(eb:T=(List.range (g.R.length+1)).map (g.DB E C))(eg:g.Di T (g.top+1)=oM CC) :
  () 130 #[(mb,0)] w (OI P w mb v lv bv av ev fv g T CC):=by
 have bj:=b3.fit;have gz:=bj.nn;have eu:=bj.nt;have et:=bj.nr;obtain⟨N,hN⟩:∃N,N=g.top+1:=⟨_,rfl⟩
 have ik:N<=1000:=by unfold Gz.top at hN;omega
 have f3:g.top<=1000:=by omega
 have ir:IntKind.i64.wrap ((g.top:Int)+1)=(g.top:Int)+1:=by rw[IntKind.wrap_i64];omega
 have gw:=fun y=>Js (P:=Tryz.prog) (t:=77) (e:=22) (z:=oG oN 0 0) (bytes:=24) Tryz.underlying77 nZ rfl (l:=((g.top:Nat):Int)+1) (n:=N) nX nX nX y
 have gx:=fun y=>Js (P:=Tryz.prog) (t:=213) (e:=261) (z:=oG oN 0 0) (bytes:=24) Tryz.underlying213 nZ rfl (l:=((g.top:Nat):Int)+1) (n:=N) nX nX nX y
 have HT:=Hd (fun y (t:Below P P y)=>LJ (b3.later t));have fw:Hid (∀y,Below P P y->() 180 #[v] y fun e w'=>∃F:Fs,e=oQ (F.q,0)/\BC P w' F g E C/\Below y y w'):=Hd (fun y t=>by refine(Y2 (b3.later t) hf).mono ?_;rintro e w' ⟨F,rfl,hF⟩;exact⟨F,rfl,hF.Bz t,hF.below⟩)
 have g6:=Hd (fun y (t:Below P P y) (k:Nat) (hk:k<=g.R.length)=>Q5 b3 t hk);have fp:=Hd (fun y (t:Below P P y)=>b3.later t);have cp:=Hd bj;have e0:=Hd eb;have di:=Hd eg;obtain⟨AT,cT,AN,cN,AR,cR,rfl,hc,gm⟩:=b3.open_;have fh:=Hd az;have bb:=Hd bh;have HN:=Hd hN;have bq:=Hd eo;have y0:oT w (mb,0)=oM (oG AT g.nt cT):=Ah.cell az 0;have y1:oT w (mb,1)=oM (oG AN g.nn cN):=Ah.cell az 1;have y2:oT w (mb,2)=oM (oG AR g.R.length cR):=Ah.cell az 2;have y3:oT w (mb,3)=oM (oH oO g.s):=Ah.cell az 3
 have l0:=az.lt;have fx:=Hd l0;clear b3 bh az hf eg hc gm bj gz hN eo eb;go_enter Tryz.func130,Tryz.ntmps130
 go_wp2_with (first
  | (
    go_at_call 180;refine(fw _ bb).mono ?_;rintro e w1 ⟨F,rfl,hF,c0⟩
    have HF:=Hd hF;have dd:=Hd c0;have b1:=fh.below c0 fx;have de:=Hd b1;have z0:oT w1 (mb,0)=oM (oG AT g.nt cT):=Ah.cell b1 0;have z1:oT w1 (mb,1)=oM (oG AN g.nn cN):=Ah.cell b1 1;have z2:oT w1 (mb,2)=oM (oG AR g.R.length cR):=Ah.cell b1 2;have z3:oT w1 (mb,3)=oM (oH oO g.s):=Ah.cell b1 3;have l1:=Ah.lt b1;have fi:=Hd (bb.trans (c0.mono bb.size));clear b1 hF c0)
  | (
    go_at_call 129;refine(HT _ fi).mono ?_;rintro e i ⟨rfl,af⟩
    have au:=Hd (dd.trans (af.mono dd.size));have ft:=Hd (HF.later af);have b2:=de.below af (Ah.lt de);have df:=Hd b2;have f7:=Ah.frozen b2 7;have x7:oT i (mb,7)=oM fe:=Ah.cell b2 7;have x2:oT i (mb,2)=oM (oG AR g.R.length cR):=Ah.cell b2 2;have l2:=Ah.lt b2;clear b2 af))
 have cw:Hid (Cv P w ((i.setCell (mb,7) (oG (i,0) N N)).alloc (oP (Array.replicate N (oG oN 0 0)) 22)) F g E C (oG oN 0 0) (oG oN 0 0) i.heap.size N 0 [] [] (List.replicate N (oG oN 0 0,[])) []/\Ah ((i.setCell (mb,7) (oG (i,0) N N)).alloc (oP (Array.replicate N (oG oN 0 0)) 22)) mb 217 (Et (.agg #[oG AT g.nt cT,oG AN g.nn cN,oG AR g.R.length cR,g.s]) lv (oG oN 0 0) (oG oN 0 0) (oG (i,0) N N) ad bv av ev fv)/\Am (·=mb) w ((i.setCell (mb,7) (oG (i,0) N N)).alloc (oP (Array.replicate N (oG oN 0 0)) 22))):=Hd (by
  have hs:=au.size;have ba:=bb.size;have ar:(i.setCell (mb,7) (oG (i,0) N N)).heap.size=i.heap.size:=by simp[World.setCell]
  have hc:Am (·=mb) i (i.setCell (mb,7) (oG (i,0) N N)):=Am.set (X:=(·=mb)) (Am.refl _ i) (p:=⟨mb,7,oN⟩) (.inr rfl) _;have im:=(bb.trans (au.mono ba))
  have gj:=ft.Rf hc (fun b hb=>by subst hb;exact⟨bq,_,_,df,nY,nY,nY,nY⟩);have e9:=gj.later (DM (i.setCell (mb,7) (oG (i,0) N N)) (oP (Array.replicate N (oG oN 0 0)) 22));have ej:=EY.fresh (i.setCell (mb,7) (oG (i,0) N N)) (B:=w.heap.size) (n:=N) (by rw[ar];exact hs) nX;rw[ar]at ej;refine⟨⟨⟨e9.below,by simp[ar];omega,ba,e9,(fun a0 x o=>by simp at o),(fun a0 x o=>by simp at o)⟩,⟨rfl,.inl ⟨rfl,rfl⟩⟩,by rw[<-HN.out];exact ej,?_,⟨rfl,.inl ⟨rfl,rfl⟩⟩,by simp[Value.ownBlock]⟩,(df.Ba 7 (oG (i,0) N N)).alloc _,((Am.AJ au).next hc).alloc _⟩
  rw[List.map_replicate,<-HN.out];apply List.ext_getElem?;intro a0;rw[pG];by_cases hi:a0<N
  ·rw[List.getElem?_range hi,List.getElem?_replicate,if_pos hi];rfl
  ·rw[nG oC,nG oC];rfl)
 generalize (i.setCell (mb,7) (oG (i,0) N N)).alloc (oP (Array.replicate N (oG oN 0 0)) 22)=W0 at *;generalize i.heap.size=j at *;clear f7 x7 x2 l2 y0 y1 y2 y3 z0 z1 z2 z3 l1 gw;go_loopg [33] (g.R.length+1) (fun n ii wr=>∃(k:Nat) (rv a9:oV) (RV TV:List oV) (a7:List (oV×List Nat)),Hid (n+k=g.R.length+1)/\k<=g.R.length+1/\ii=oH oO k/\Hid (RV.length=k/\TV.length=k)/\Hid (Cv P w wr F g E C rv a9 j N (min k g.R.length) RV TV a7 ((List.range k).map (g.DB E C)))/\Hid (Ah wr mb 217 (Et (.agg #[oG AT g.nt cT,oG AN g.nn cN,oG AR g.R.length cR,g.s]) lv rv a9 (oG (j,0) N N) ad bv av ev fv))/\Hid (Am (·=mb) w wr))
 case atStart=>exact⟨0,_,_,[],[],_,Hd rfl,nX,rfl,Hd ⟨rfl,rfl⟩,Hd (by simpa using cw.1),Hd cw.2.1,Hd cw.2.2⟩
 case round=>
  obtain⟨k,rv,a9,RV,TV,a7,dt,hk,rfl,a5,HM,ab,cn⟩:=hrel;rename oU=>w9
  have ai:=Hd HM.CR.below;have z0:oT w9 (mb,0)=oM (oG AT g.nt cT):=Ah.cell ab 0;have z1:oT w9 (mb,1)=oM (oG AN g.nn cN):=Ah.cell ab 1;have z2:oT w9 (mb,2)=oM (oG AR g.R.length cR):=Ah.cell ab 2;have z3:oT w9 (mb,3)=oM (oH oO g.s):=Ah.cell ab 3;by_cases iy:k<g.R.length+1
  ·have bt:=Hd (g6 w9 ai k nX)
   have gv:(k:Int)<(g.R.length:Int)+1:=by omega
   obtain⟨Ar,cr,ez⟩:=CG HM.Hl;obtain⟨At,ct,f4⟩:=CG HM.Hw;rw[a5.1]at ez;rw[a5.2]at f4;subst ez;subst f4;obtain⟨left,b7⟩:∃a3,(g.Br k).1=a3:=⟨_,rfl⟩
   unfold Mz at bt;rw[b7]at bt;have fy:=Hd b7;clear b7;go_upto_region 6 with(
                  go_at_call 59;refine bt.mono ?_;rintro e i ⟨xv,rfl,hn,hb,h0,h1⟩
                  obtain⟨⟨p,l,hw,-⟩,-,-⟩:=id hn;subst hw;have ax:=Hd hn;have gh:=Hd h0;have e4:=Hd h1;have au:=Hd hb;clear hn h0 h1 hb)
   have hg:i.heap.size<=(i.alloc (oP #[left,oG p (g.right k).length l] 113)).heap.size:=by simp
   have b6:Hid (Ah (i.alloc (oP #[left,oG p (g.right k).length l] 113)) i.heap.size 113 #[left,oG p (g.right k).length l]):=Hd (Ah.new i 113 _);have ak:Hid (Below w9 w9 (i.alloc (oP #[left,oG p (g.right k).length l] 113))):=Hd (au.alloc au.size _);have du:Hid (BF (i.alloc (oP #[left,oG p (g.right k).length l] 113)) (oG p (g.right k).length l) (g.right k)):=Hd (ax.later (AG i _));have e6:Hid (k=g.R.length->∃b,(oG p (g.right k).length l:oV)=oG (oM ⟨b,0,oN⟩) 1 1/\w9.heap.size<=b/\∃cs,Ah (i.alloc (oP #[left,oG p (g.right k).length l] 113)) b 3 cs):=Hd (fun e=>by obtain⟨b,h1,h2,cs,h3⟩:=e4 e;exact⟨b,h1,h2,cs,h3.alloc _⟩)
   generalize i.alloc (oP #[left,oG p (g.right k).length l] 113)=W at *;generalize i.heap.size=rb at *;have an:=Hd (HM.later ak);have aw:=Hd (ab.below ak ab.lt);have dm:=Hd (cn.next (Am.AJ ak));clear hg z0 z1 z2 z3 au ax e4;have r0:oT W (rb,0)=oM (oH oO left):=Ah.cell b6 0;have r1:oT W (rb,1)=oM (oG p (g.right k).length l):=Ah.cell b6 1;have rl:=b6.lt;have z5:oT W (mb,5)=oM (oG Ar k cr):=Ah.cell aw 5;have ml:=aw.lt
   go_cut [] (fun wx=>∃(A6:Option Addr) (c6:Nat),Hid (Cv P w wx F g E C (oG A6 (k+1) c6) (oG At k ct) j N (min k g.R.length) (RV++[oG p (g.right k).length l]) TV a7 ((List.range k).map (g.DB E C)))/\Hid (Ah wx mb 217 (Et (.agg #[oG AT g.nt cT,oG AN g.nn cN,oG AR g.R.length cR,g.s]) lv (oG A6 (k+1) c6) (oG At k ct) (oG (j,0) N N) ad bv av ev fv))/\Hid (Am (·=mb) w wx)/\Hid (Ah wx rb 113 #[left,oG p (g.right k).length l]))
   case first=>
     have bp:Hid (∀(Y R:oU) (A6:Option Addr) (c6:Nat),Below W W Y->R.ownsRow w 22 1 (oG A6 (k+1) c6) (k+1) (RV++[oG p (g.right k).length l])->AI w [22] Y R->(Y.grownBy R (Value.slice Ar k cr).ownBlock/\((Value.slice A6 (k+1) c6).ownBlock=(Value.slice Ar k cr).ownBlock\/(Value.slice A6 (k+1) c6).ownBlock=oM Y.heap.size)) ->
       Hid (Cv P w (R.setCell (mb,5) (oG A6 (k+1) c6)) F g E C (oG A6 (k+1) c6) (oG At k ct) j N (min k g.R.length) (RV++[oG p (g.right k).length l]) TV a7 ((List.range k).map (g.DB E C)))/\Hid (Ah (R.setCell (mb,5) (oG A6 (k+1) c6)) mb 217 (Et (.agg #[oG AT g.nt cT,oG AN g.nn cN,oG AR g.R.length cR,g.s]) lv (oG A6 (k+1) c6) (oG At k ct) (oG (j,0) N N) ad bv av ev fv))/\Hid (Am (·=mb) w (R.setCell (mb,5) (oG A6 (k+1) c6)))/\Hid (Ah (R.setCell (mb,5) (oG A6 (k+1) c6)) rb 113 #[left,oG p (g.right k).length l])):=Hd (fun Y R A6 c6 t q1 J q3=>by
      have hl:=a5.1;have hY:=an.later t;have d7:=J.Aj (aw.below t aw.lt) (.inr nY);have ew:=J.Aj (b6.below t b6.lt) (.inr nY);have hM:=hY.mQ (x:=oG p (g.right k).length l) (A:=A6) (c:=c6) nX (by rw[hl];exact q1) (by rw[hl];exact q3) (by rw[hl];exact du.later t) (by rw[hl];exact gh) (by rw[hl];intro e;obtain⟨b,h1,h2,cs,h3⟩:=e6 e;exact⟨b,h1,AW HM.CR.size h2,cs,h3.below t h3.lt⟩)
      rw[hl]at hM;have gy:rb≠mb:=Ah.Bb ew d7 nY;refine⟨Hd (hM.Bz d7 bq 5 _),Hd (d7.Ba 5 _),Hd ((dm.next (Am.AJ t)).trans (Y:=fun b=>b=mb\/w.heap.size<=b) ((J.AA.mono fun b hb=>.inr hb).next (Am.set (X:=fun b=>b=mb\/w.heap.size<=b) (Am.refl _ R) (p:=⟨mb,5,oN⟩) (.inr (.inl rfl)) _)) (fun a0 hi o=>o.resolve_right nX)),Hd (ew.Bz (p:=⟨mb,5,oN⟩) gy _)⟩)
     have br:Hid (W.ownsRow w 22 1 (oG Ar k cr) k RV):=Hd (by have h:=an.Hl;rw[a5.1]at h;exact h);go_region_law (
               refine ER MO (.tmp 49) (.tmp 52) ?_ ?_ (base:=w.heap.size) (n:=k) (m:=1) (N:=k+1) (v:=oG Ar k cr) (src:=oG (W,0) 1 1) (xs:=RV) (news:=[oG p (g.right k).length l]) ?_ ?_ ?_ ?_ ?_ ?_ ?_ ?_ ?_
               ·rfl
               ·rfl
               ·rfl
               ·rfl
               ·first|exact(AU br ((Below.refl _ W).drew)).alloc _|exact AU (br.alloc _) ((Below.refl _ _).drew)
               ·first|exact Be.Aj (c:=1) (cs:=[oG p (g.right k).length l]) (Ah.new W.drew 22 _) rfl oE|exact Be.Aj (c:=1) (cs:=[oG p (g.right k).length l]) (Ah.drew (Ah.new W 22 _)) rfl oE
               ·rfl
               ·unfold maxLen;omega
               ·omega
               ·have:=an.CR.size;simp;omega
               intro A6 c6 R q1 J q3;have dv:=Hd q1;have dw:=Hd J;have dx:=Hd q3;have ch:Hid (Ah R mb 217 (Et (.agg #[oG AT g.nt cT,oG AN g.nn cN,oG AR g.R.length cR,g.s]) lv (oG Ar k cr) (oG At k ct) (oG (j,0) N N) ad bv av ev fv)):=Hd (by first|exact J.Aj (aw.drew.alloc _) (.inr nY)|exact J.Aj (Ah.drew (aw.alloc _)) (.inr nY));have ia:oT R (mb,5)=oM (oG Ar k cr):=Ah.cell ch 5;have ie:=Ah.frozen ch 5;have j2:=ch.lt;clear q1 J q3)
     all_goals go_wp2_with fail
     all_goals go_meet
     all_goals first
      | exact⟨A6,c6,bp _ _ _ _ (((Below.refl _ W).drew).alloc (Ay _) _) dv dw dx⟩
      | exact⟨A6,c6,bp _ _ _ _ (((Below.refl _ W).alloc (Ay _) _).drew) dv dw dx⟩
   case rest=>
     obtain⟨A6,c6,a8,aj,ck,ao⟩:=hcut;rename oU=>R
     clear r0 r1 z5;have r0:oT R (rb,0)=oM (oH oO left):=Ah.cell ao 0;have r1:oT R (rb,1)=oM (oG p (g.right k).length l):=Ah.cell ao 1;have z2:oT R (mb,2)=oM (oG AR g.R.length cR):=Ah.cell aj 2;have z7:oT R (mb,7)=oM (oG (j,0) N N):=Ah.cell aj 7;have fd:=ao.lt;have fb:=aj.lt;have b7:k<g.R.length->(g.R.getD k (0,[])).1=left/\left<=g.top:=fun h=>by have h1:=fy.out;unfold Gz.Br at h1;rw[if_neg nX]at h1;refine⟨h1,?_⟩;have h2:=cp.left (g.R.getD k (0,[])) (by rw[dG,eG h];exact List.getElem_mem h);omega
     have dp:=Hd b7;clear b7
     go_upto_if 63 with fail
     go_cut [] (fun wx=>∃(R2:List (oV×List Nat)),Hid (Cv P w wx F g E C (oG A6 (k+1) c6) (oG At k ct) j N (min (k+1) g.R.length) (RV++[oG p (g.right k).length l]) TV R2 ((List.range k).map (g.DB E C)))/\Hid (Ah wx mb 217 (Et (.agg #[oG AT g.nt cT,oG AN g.nn cN,oG AR g.R.length cR,g.s]) lv (oG A6 (k+1) c6) (oG At k ct) (oG (j,0) N N) ad bv av ev fv))/\Hid (Am (·=mb) w wx)/\Hid (Ah wx rb 113 #[left,oG p (g.right k).length l]))
     case first=>
      by_cases b8:k<g.R.length
      ·have em:(k:Int)<(g.R.length:Int):=by omega
       obtain⟨en,iu⟩:=dp b8;have gs:=a8.AM.len;obtain⟨⟨xv,U⟩,o⟩:∃x,a7[left]?=oM x:=⟨_,eG nX⟩
       obtain⟨Au,cu,fa⟩:=CG (a8.AM.own left _ o);simp only at fa;subst fa;have ag:=a8.AM.row;rw[<-HN.out]at ag;have cc:=Bh ag left (by rw[HN.out];omega);rw[pG,o]at cc;simp only[Option.map_some]at cc;have ig:=GD ag left;have ht:=(B6 ag j rfl).1;have br:Hid (R.ownsRow w 3 1 (oG Au U.length cu) U.length (U.map AY)):=Hd (a8.AM.own left _ o);have j0:U.length<=1000:=by
        have h3:(a7.map (·.2))[left]?=oM U:=by rw[pG,o];rfl
        rw[a8.lists,pG]at h3;obtain⟨b4,hj,e⟩:=Option.map_eq_some_iff.1 h3;rw[<-e];have:=iK g (min k g.R.length) b4;omega
       have iw:(left:Int)<(N:Int):=by have:=HN.out;omega
       have HX:=Hd o;have d5:=Hd en;have ea:(RV++[(oG p (g.right k).length l:oV)]).length=k+1:=by have:=a5.1;simp;omega
       have b9:min k g.R.length=k:=by omega
       have da:min (k+1) g.R.length=k+1:=by omega
       have i9:=Hd (And.intro ea (And.intro b9 da));have bp:Hid (∀(Y I:oU) (A7:Option Addr) (c7:Nat),Below R R Y->I.ownsRow w 3 1 (oG A7 (U.length+1) c7) (U.length+1) (U.map AY++[oH oO (k:Nat)])->AI w [3] Y I->(Y.grownBy I (Value.slice Au U.length cu).ownBlock/\((Value.slice A7 (U.length+1) c7).ownBlock=(Value.slice Au U.length cu).ownBlock\/(Value.slice A7 (U.length+1) c7).ownBlock=oM Y.heap.size)) ->
          ∃R2,Hid (Cv P w (I.setCell (j,left) (oG A7 (U.length+1) c7)) F g E C (oG A6 (k+1) c6) (oG At k ct) j N (min (k+1) g.R.length) (RV++[oG p (g.right k).length l]) TV R2 ((List.range k).map (g.DB E C)))/\Hid (Ah (I.setCell (j,left) (oG A7 (U.length+1) c7)) mb 217 (Et (.agg #[oG AT g.nt cT,oG AN g.nn cN,oG AR g.R.length cR,g.s]) lv (oG A6 (k+1) c6) (oG At k ct) (oG (j,0) N N) ad bv av ev fv))/\Hid (Am (·=mb) w (I.setCell (j,left) (oG A7 (U.length+1) c7)))/\Hid (Ah (I.setCell (j,left) (oG A7 (U.length+1) c7)) rb 113 #[left,oG p (g.right k).length l])):=Hd (fun Y I A7 c7 t q1 J q3=>by
        have hM:=a8.out;rw[b9]at hM;obtain⟨R2,gl⟩:=hM.Yb nX HX d5 (nv:=oG A7 (U.length+1) c7) t q1 J q3;have ec:=J.Aj (aj.below t aj.lt) (.inr nY);have ey:=J.Aj (ao.below t ao.lt) (.inr nY);obtain⟨bw,gr⟩:=(a8.AM.later t).Aj;have ef:=J.Aj gr (.inr nY);have hr:w.heap.size<=j:=(B6 ag j rfl).2;rw[da];refine⟨R2,Hd gl,Hd (ec.Bz (p:=⟨j,left,oN⟩) (Ah.Bb ec ef nY) _),Hd ((ck.next (Am.AJ t)).trans (Y:=fun b=>w.heap.size<=b) (J.AA.next (Am.set (X:=fun b=>w.heap.size<=b) (Am.refl _ I) (p:=⟨j,left,oN⟩) (.inr hr) _)) (fun a0 hi o=>by omega)),Hd (ey.Bz (p:=⟨j,left,oN⟩) (Ah.Bb ey ef nY) _)⟩)
       have g7:Hid (∀Y,Below R R Y->oT Y (mb,7)=oM (oG (j,0) N N)/\oT Y (rb,0)=oM (oH oO left)/\oT Y (j,left)=oM (oG Au U.length cu)):=Hd (fun Y t=>⟨(t.cell (p:=⟨mb,7,oN⟩) fb).trans z7,(t.cell (p:=⟨rb,0,oN⟩) fd).trans r0,(t.cell (p:=⟨j,left,oN⟩) ht).trans cc⟩);clear o ag en ea b9 da gs;go_upto_region 8 with fail
       refine DY 18 (fun v:oU=>oT v (mb,7)=oM (oG (j,0) N N)/\oT v (rb,0)=oM (oH oO left)/\oT v (j,left)=oM (oG Au U.length cu)) nZ ?_;have a4:(fun v:oU=>oT v (mb,7)=oM (oG (j,0) N N)/\oT v (rb,0)=oM (oH oO left)/\oT v (j,left)=oM (oG Au U.length cu)) R.drew:=⟨z7,r0,cc⟩
       refine AF 0 a4 ?_;simp only[AD,AE];refine AF 1 a4 ?_;simp only[AD,AE];refine AF 2 a4 ?_;simp only[AD,AE];refine AF 3 a4 ?_;simp only[AD,AE];refine AF 4 a4 ?_;simp only[AD,AE];refine AF 5 a4 ?_;simp only[AD,AE];refine AF 6 a4 ?_;simp only[AD,AE];refine AF 7 a4 ?_;simp only[AD,AE];refine AF 8 a4 ?_;simp only[AD,AE];refine AF 9 a4 ?_;simp only[AD,AE];refine AF 10 a4 ?_;simp only[AD,AE];refine AF 11 a4 ?_;simp only[AD,AE];refine AF 12 a4 ?_;simp only[AD,AE];refine AF 13 a4 ?_;simp only[AD,AE]
       refine AF 14 a4 ?_;simp only[AD,AE];refine Bm 15 nZ rfl rfl (fun K hK=>?_);go_simp;refine hK _ _ (fun _=>?_) ?_
       ·exact g7 _ (((Below.refl _ R).alloc (Ay _) _).drew)
       clear hK K a4;refine Hn 16 nZ rfl rfl rfl (fun K hK=>?_);refine Eu Ib (.tmp 77) (.tmp 79) rfl (base:=w.heap.size) (n:=U.length) (m:=1) (N:=U.length+1) (v:=oG Au U.length cu) (src:=oG (R,0) 1 1) (xs:=U.map AY) (news:=[oH oO (k:Nat)]) rfl rfl (AU (br.alloc _) ((Below.refl _ _).drew)) (Be.Aj (c:=1) (cs:=[oH oO (k:Nat)]) (Ah.drew (Ah.new R 3 _)) rfl oE) rfl oB nX (by have:=a8.CR.size;simp;omega) ?_;intro A7 c7 I q1 J q3;have d0:Hid (I.ownsRow w 22 1 (oG (j,0) N N) N (a7.map (·.1))):=Hd (by have ag:=a8.AM.row;rw[<-HN.out]at ag;exact J.own (AU (ag.alloc _) ((Below.refl _ _).drew)) (.inr nY))
       have f5:oT I (j,left)=oM (oG Au U.length cu):=by rw[Bh d0.out left nX,pG,HX.out];rfl
       have ih:=GD d0 left;have j3:=(B6 d0 j rfl).1;have g5:Hid (Ah I rb 113 #[left,oG p (g.right k).length l]):=Hd (J.Aj (Ah.drew (ao.alloc _)) (.inr nY));have al:Hid (Ah I mb 217 (Et (.agg #[oG AT g.nt cT,oG AN g.nn cN,oG AR g.R.length cR,g.s]) lv (oG A6 (k+1) c6) (oG At k ct) (oG (j,0) N N) ad bv av ev fv)):=Hd (J.Aj (Ah.drew (aj.alloc _)) (.inr nY));have fc:oT I (rb,0)=oM (oH oO left):=Ah.cell g5 0;have ff:oT I (mb,7)=oM (oG (j,0) N N):=Ah.cell al 7
       have fu:=Hd (bp _ I A7 c7 (((Below.refl _ R).alloc (Ay _) _).drew) q1 J q3);clear q1 J q3;refine hK _ _ (fun _=>⟨ff,fc,f5⟩) ?_;clear hK K;simp only[List.set_cons_succ,List.set_cons_zero];have a4:(fun(v:oU)=>oT v (mb,7)=oM (oG (j,0) N N)/\oT v (rb,0)=oM (oH oO left)/\oT v (j,left)=oM (oG Au U.length cu)) I:=⟨ff,fc,f5⟩
       refine AF 17 a4 ?_;simp only[AD,AE];clear a4;refine Bm 18 nZ rfl rfl (fun K hK=>?_);go_simp;refine hK _ _ (fun h=>absurd rfl h) ?_;clear hK K;refine D0 nZ ?_ _;go_wp2_with fail
       go_meet
       exact fu
      ·have em:¬((k:Int)<(g.R.length:Int)):=by omega
       have b9:min k g.R.length=min (k+1) g.R.length:=by omega
       have dr:=a8;rw[b9]at dr;clear b9;go_wp2_with fail
       go_meet
       exact⟨a7,dr,aj,ck,ao⟩
     case rest=>
      obtain⟨R2,al,bo,fl,be⟩:=hcut;rename oU=>I
      clear r0 r1 z2 z7 HM ab cn b6 ak du e6 an aw dm a8 aj ck ao bt ai dp rl fd ml fb gv;have r1:oT I (rb,1)=oM (oG p (g.right k).length l):=Ah.cell be 1;have hx:=be.lt;have ax:Hid (BF I (oG p (g.right k).length l) (g.right k)):=Hd (by have h:=al.CR.Ha k (oG p (g.right k).length l) (by rw[List.getElem?_append_right (by rw[a5.1];omega),a5.1,Nat.sub_self];rfl);exact h.1)
      obtain⟨len,bk⟩:∃n,(g.right k).length=n:=⟨_,rfl⟩
      have iv:len<=8:=by
       rw[<-bk];unfold Gz.right Gz.Br;split
       ·simp
       ·rw[dG]
        cases hq:g.R[k]? with
        | none=>simp
        | some r=>exact cp.short r (mG hq)
      have ix:len<=l:=by rw[<-bk];exact(ax.room _ _ _ rfl).1
      have d5:Hid (∀x∈g.right k,x<=g.top):=Hd (fun x o=>cp.M4 o);have cq:=Hd bk;rw[bk]at r1 ax al be;clear bk;have fz:Hid (∀y,Below I I y->∀lv (a3:List Nat),BF y lv a3->(∀x∈a3,x<=g.top)->() 181 #[(F.q,0),lv] y fun e w'=>∃A c,e=oQ (.tuple #[oG A (Bs (g.nt+1) (Dr E C a3 0).1).length c,oK (Dr E C a3 0).2])/\BF w' (oG A (Bs (g.nt+1) (Dr E C a3 0).1).length c) (Bs (g.nt+1) (Dr E C a3 0).1)/\Below y y w'):=Hd (fun y t lv a3 h1 h2=>dS (al.CR.fst.later t) h1 h2 eu)
      have g8:Hid (∀y,Below I I y->∀lv (a3:List Nat),BF y lv a3->(∀x∈a3,x<=g.nt)->() 182 #[(mb,0),lv] y fun e w'=>∃h:AH,e=oQ h.v/\h.n=g.nt+1/\y.heap.size<=h.h/\y.heap.size<=h.wb/\AQ w' h (G6 a3)/\Below y y w'):=Hd (fun y t lv a3 h1 h2=>QX (w:=y) (Ah.cell (bo.below t bo.lt) 0) eu h1 h2);have g0:Hid (∀a3,(Dr E C a3 0).1<2 ^ (g.nt+1)):=Hd (fun a3=>al.CR.fst.kP a3);go_wp2_with fail
      clear r1 hx;go_loopg [6,85] len (fun m sv ii wr=>∃(d:Nat) (Z:List (AH×(Nat×Bool))),Hid (m+d=len)/\d<=len/\ii=oH oO d/\Hid (Z.length=d)/\Hid (Gp I wr (g.nt+1) sv Z)/\Hid (Z.map (·.2)=(g.DB E C k).take d))
      case atStart=>exact⟨0,[],Hd rfl,AX _,rfl,Hd rfl,Hd (Gp.start I _),Hd rfl⟩
      case round=>
       obtain⟨d,Z,cz,hd,rfl,bf,ay,d6⟩:=hrel;rename oU=>w8
       have aa:=Hd ay.below;have dy:=Hd (be.below aa be.lt);have r1:oT w8 (rb,1)=oM (oG p len l):=Ah.cell dy 1;have hy:=dy.lt;obtain⟨A5,c5,f2⟩:=CG ay.row;rw[bf.out]at f2;subst f2;by_cases b8:d<len
       ·obtain⟨x,o⟩:∃x,(g.right k)[d]?=oM x:=⟨_,eG (by rw[cq.out];exact b8)⟩
        obtain⟨b,off,rfl,hb,gq⟩:∃b off,p=oM ⟨b,off,oN⟩/\b<w8.heap.size/\oT w8 ⟨b,off+d,oN⟩=oM (oH oO x):=by
          obtain⟨⟨A',c',e,hc⟩,-,-⟩:=ax.later aa;cases e
          exact hc d x o
        obtain⟨sa,ho⟩:∃sa,(if l=d+1 then oM (⟨b,off,oN⟩:Addr) else oM ⟨b,off+(d+1),oN⟩)=sa:=⟨_,rfl⟩
        obtain⟨⟨SS,ee⟩,bz⟩:∃q,Dr E C ((g.right k).drop (d+1)) 0=q:=⟨_,rfl⟩
        have fs:Hid (BF w8 (oG sa (len-(d+1)) (l-(d+1))) ((g.right k).drop (d+1))):=Hd (by have h:=(ax.later aa).cut (d+1) nX;rwa [ho]at h)
        have g9:Hid (SS<2 ^ (g.nt+1)):=Hd (by have h:=g0 ((g.right k).drop (d+1));rw[bz]at h;exact h);have dn:Hid (() 181 #[(F.q,0),oG sa (len-(d+1)) (l-(d+1))] w8 fun e w'=>∃A c,e=oQ (.tuple #[oG A (Bs (g.nt+1) SS).length c,oK ee])/\BF w' (oG A (Bs (g.nt+1) SS).length c) (Bs (g.nt+1) SS)/\Below w8 w8 w'):=Hd (by have h:=fz w8 aa _ _ fs (fun z hz=>d5 z (List.mem_of_mem_drop hz));rw[bz]at h;exact h)
        obtain⟨BL,bx⟩:∃a3,Bs (g.nt+1) SS=a3:=⟨_,rfl⟩
        have dg:Hid (G6 BL=SS/\∀x∈BL,x<=g.nt):=Hd ⟨by rw[<-bx];exact eL g9,fun x o=>by rw[<-bx]at o;have:=Xw o;omega⟩;rw[bx]at dn;have gd:Hid ((g.DB E C k).take (d+1)=(g.DB E C k).take d++[(SS,ee)]):=Hd (by
          have h:(g.DB E C k)[d]?=oM (SS,ee):=by unfold Gz.DB;rw[pG,List.getElem?_range (by rw[cq.out];exact b8),<-bz];rfl
          rw[List.take_add_one,h];rfl)
        have i3:(0:Int)<=(d:Int)+1:=by omega
        have i4:(d:Int)+1<=(len:Int):=by omega
        have i5:(len:Int)<=(l:Int):=by omega
        have i6:IntKind.i64.wrap ((d:Int)+1)=(d:Int)+1:=by rw[IntKind.wrap_i64];omega
        have i7:d+1<=len:=by omega
        clear o gq hb bz bx;generalize ed:BL.length=bl at *;have i1:=Hd ed;clear ed;go_wp2_with (first
          | (
             go_at_call 181;refine dn.mono ?_;rintro e j8 ⟨A9,c9,rfl,es,ae⟩
             have g4:=Hd es;have ai:=Hd ae;have cf:=Hd (aa.trans (ae.mono aa.size));clear es ae)
          | (
             go_at_call 182;refine(g8 _ cf _ BL g4 dg.2).mono ?_;rintro e cd ⟨t0,rfl,er,ek,f6,ba,bh⟩
             rw[dg.1]at ba;have ga:=Hd (And.intro er (And.intro (And.intro ek f6) ba));have cg:=Hd (ai.trans (bh.mono ai.size));unfold AH.v;clear er ek f6 ba bh)
          | (
             at_builtin;refine DC Z5 (.tmp 98) (.tmp 104) rfl rfl (base:=I.heap.size) (n:=d) (m:=1) (N:=d+1) (xs:=Z.flatMap IH) (news:=IH (t0,(SS,ee))) rfl rfl (AU (by have h:=(ay.later cg).row;rw[bf.out]at h;exact h) (AG cd (oP #[(t0.h,0),oK ee] 260))) (Be.Aj (c:=1) (cs:=IH (t0,(SS,ee))) (Ah.new cd 260 _) rfl (fun u hu=>by unfold IH at hu;simp at hu;rcases hu with rfl|rfl<;>rfl)) rfl oB nX (by have h1:=cf.size;have h2:=cg.size;have h3:=aa.size;simp;omega) ?_
             intro dc e7 i0 q1 J q3;have gf:Hid (Gp I i0 (g.nt+1) (oG dc (d+1) e7) (Z++[(t0,(SS,ee))])):=Hd (by have hh:=(ay.later cg).later (AG cd (oP #[(t0.h,0),oK ee] 260));have hz:=bf.out;have hb10:=cf.size;obtain⟨n0,⟨h0,h1⟩,s0⟩:=ga.out;have hm:=hh.more (t:=t0) (S:=SS) (e:=ee) (s0.later (AG cd _)) n0 ⟨nX,nX⟩ (A:=dc) (c:=e7) (by rw[hz];exact q1) J;rw[hz]at hm;exact hm)
             clear q1 J q3))
        go_roundg (len-(d+1))
        case measure=>have:=cz.out;omega
        case rel=>exact⟨d+1,Z++[(t0,(SS,ee))],Hd (by have:=cz.out;omega),nX,oD,Hd (by simp[bf.out]),gf,Hd (by rw[BB,d6.out,gd.out];rfl)⟩
       ·obtain rfl:d=len:=by omega
        have an:=Hd (al.later aa);have ak:=Hd (bo.below aa bo.lt);have gb:Hid (Z.map (·.2)=g.DB E C k):=Hd (by have h:=d6.out;rw[Da (by unfold Gz.DB;rw[lM,List.length_range,cq.out];exact Ay _)]at h;exact h)
        have z6:oT w8 (mb,6)=oM (oG At k ct):=Ah.cell ak 6;have j5:=ak.lt;have it:k<=1000:=by omega
        clear r1 hy cz d6;go_wp2_with (
                 at_builtin;refine DC fG (.tmp 111) (.tmp 113) rfl rfl (base:=w.heap.size) (n:=k) (m:=1) (N:=k+1) (xs:=TV) (news:=[oG A5 d c5]) rfl rfl (AU (by have h:=an.Hw;rw[a5.2]at h;exact h) (AG w8 (oP #[oG A5 d c5] 255))) (Be.Aj (c:=1) (cs:=[oG A5 d c5]) (Ah.new w8 255 _) rfl oE) rfl oB nX (by have:=an.CR.size;simp;omega) ?_
                 intro A9 c9 w9 q1 J q3;have ae:=J.Aj (ak.alloc (oP #[oG A5 d c5] 255)) (.inr nY);have ai:=Hd ae;have f9:=Ah.frozen ae 6;have z9:oT w9 (mb,6)=oM (oG At k ct):=Ah.cell ae 6;have l9:=ae.lt;have g2:Hid (∃R3,Cv P w (w9.setCell (mb,6) (oG A9 (k+1) c9)) F g E C (oG A6 (k+1) c6) (oG A9 (k+1) c9) j N (min (k+1) g.R.length) (RV++[oG p d l]) (TV++[oG A5 d c5]) R3 ((List.range (k+1)).map (g.DB E C))):=Hd (by
                  have hA:=an.later (AG w8 (oP #[oG A5 d c5] 255));have hT:=(ay.later (AG w8 (oP #[oG A5 d c5] 255))).jX (lo:=w.heap.size) (by have:=al.CR.size;omega) (by rw[bf.out];omega);rw[gb.out]at hT;have d9:=a5.2;have hM:=hA.LN (x:=oG A5 d c5) (l:=g.DB E C k) (A:=A9) (c:=c9) (by rw[d9];exact q1) q3.1 hT (by rw[d9];simp);rw[d9]at hM;have e:(List.range (k+1)).map (g.DB E C)=(List.range k).map (g.DB E C)++[g.DB E C k]:=by rw[List.range_succ,BB];rfl
                  rw[e];exact⟨_,hM.Bz ae bq 6 _⟩)
                 have fo:Hid (Am (·=mb) w (w9.setCell (mb,6) (oG A9 (k+1) c9))):=Hd (((fl.next (Am.AJ aa)).alloc (oP #[oG A5 d c5] 255)).trans (Y:=fun b=>b=mb\/w.heap.size<=b) ((J.AA.mono fun b hb=>.inr hb).next (Am.set (X:=fun b=>b=mb\/w.heap.size<=b) (Am.refl _ w9) (p:=⟨mb,6,oN⟩) (.inr (.inl rfl)) _)) (fun a0 hi o=>o.resolve_right nX));clear q1 J q3 ae)
        obtain⟨R3,bd⟩:=g2.out
        go_roundg (g.R.length-k)
        case measure=>have:=dt.out;omega
        case rel=>exact⟨k+1,_,_,_,_,R3,Hd (by have:=dt.out;omega),nX,oD,Hd ⟨by simp[a5.1],by simp[a5.2]⟩,Hd bd,Hd (ai.Ba 6 _),fo⟩
  ·obtain rfl:k=g.R.length+1:=by omega
   have ep:min (g.R.length+1) g.R.length=g.R.length:=by omega
   have g1:Hid (Cv P w w9 F g E C rv a9 j N g.R.length RV TV a7 T):=Hd (by have h:=HM.out;rw[ep,<-e0.out]at h;exact h);have em:¬(((g.R.length:Int)+1)<((g.R.length:Int)+1)):=by omega
   have j6:=ab.lt;have ay:Hid (∀k,k<=g.R.length->(T.getD k []).length=(g.right k).length):=Hd (fun k hk=>by rw[e0.out,dG,pG,List.getElem?_range nX];unfold Gz.DB;simp)
   have fq:Hid (∀(y:oU) (mv:Array oV) (s:Nat),Cv P w y F g E C rv a9 j N g.R.length RV TV a7 T->(∀b4,b4<4->oT y ⟨mb,b4,oN⟩=(Value.agg #[oG AT g.nt cT,oG AN g.nn cN,oG AR g.R.length cR,g.s]).cells[b4]?)->oT y (mb,5)=oM rv->oT y (mb,6)=oM a9->oT y (mb,7)=oM (oG (j,0) N N)->g.nt<s->s<N ->
      () 183 #[(mb,0),oH oO s] y fun e w'=>∃A c,e=oQ (oG A (CC.getD s []).length c)/\DW (fun b=>y.heap.size<=b/\b<w'.heap.size) w' (g.nt+1) (oG A (CC.getD s []).length c) (CC.getD s [])/\Below y y w'):=Hd (fun y mv s hM hc h5 h6 h7 ca f0=>by
     have he:s<g.top+1:=by rw[<-HN.out];exact f0
     obtain⟨d1,d2,d3⟩:=hM.done a5.1 a5.2 et f3;have db:∀b,Hp P w y b->Old y.heap.size b:=fun b hb=>hb.2
     rw[<-HN.out]at d3;refine(gI (fp y hM.CR.below) hc h5 h6 h7 (d1.mono db) (by rw[<-HN.out];exact d3.mono db) (d2.mono db) ay ca nX (YX di ca he)).mono ?_;rintro e w' ⟨cv,rfl,h1,h2⟩;obtain⟨A,c,hv,hh⟩:=h1;exact⟨A,c,by rw[hv],⟨A,c,rfl,hh⟩,h2⟩)
   have gg:=Hd (HT w9 ai);have h4:g.nt+1<=N:=by have h:=HN.out;unfold Gz.top at h;omega
   clear HM ep;go_wp2_with (
             go_at_call 129;refine gg.mono ?_;rintro e i ⟨rfl,af⟩
             have dq:=Hd (g1.later af);have b5:=Hd (ab.below af ab.lt);have fj:=Hd (cn.next (Am.AJ af));have f8:=Ah.frozen b5 8;have x8:oT i (mb,8)=oM ad:=Ah.cell b5 8;have x0:oT i (mb,0)=oM (oG AT g.nt cT):=Ah.cell b5 0;have l2:=b5.lt;clear af)
   have dk:Hid (Cv P w ((i.setCell (mb,8) (oG (i,0) N N)).alloc (oP (Array.replicate N (oG oN 0 0)) 261)) F g E C rv a9 j N g.R.length RV TV a7 T/\Ah ((i.setCell (mb,8) (oG (i,0) N N)).alloc (oP (Array.replicate N (oG oN 0 0)) 261)) mb 217 (Et (.agg #[oG AT g.nt cT,oG AN g.nn cN,oG AR g.R.length cR,g.s]) lv rv a9 (oG (j,0) N N) (oG (i,0) N N) bv av ev fv)/\Am (·=mb) w ((i.setCell (mb,8) (oG (i,0) N N)).alloc (oP (Array.replicate N (oG oN 0 0)) 261)) /\
      ((i.setCell (mb,8) (oG (i,0) N N)).alloc (oP (Array.replicate N (oG oN 0 0)) 261)).ownsRow w 261 1 (oG (i,0) N N) N (List.replicate N (oG oN 0 0))):=Hd (by
     have ar:(i.setCell (mb,8) (oG (i,0) N N)).heap.size=i.heap.size:=by simp[World.setCell]
     refine⟨(dq.Bz b5 bq 8 _).later (DM _ _),(b5.Ba 8 _).alloc _,(fj.set (X:=(·=mb)) (p:=⟨mb,8,oN⟩) (.inr rfl) _).alloc _,⟨oA,.inr ⟨i.heap.size,N,Array.replicate N (oG oN 0 0),rfl,dq.CR.size,?_,Ay _,oB,oA,oA⟩⟩⟩;have h:=Ah.new (i.setCell (mb,8) (oG (i,0) N N)) 261 (Array.replicate N (oG oN 0 0));rw[ar]at h;exact h)
   generalize (i.setCell (mb,8) (oG (i,0) N N)).alloc (oP (Array.replicate N (oG oN 0 0)) 261)=W1 at *;generalize i.heap.size=cb at *;obtain⟨cy,cj,cm,d4⟩:=dk.out;have cy:=Hd cy;have cj:=Hd cj;have cm:=Hd cm;have d4:=Hd d4;clear dk f8 x8 x0 l2 gx z0 z1 z2 z3;go_loopg [10] (N-(g.nt+1)) (fun m ss wr=>∃(s:Nat) (CV:List oV),Hid (m+s=N)/\g.nt<s/\s<=N/\ss=oH oO s/\Hid (Cv P w wr F g E C rv a9 j N g.R.length RV TV a7 T)/\Hid (Ah wr mb 217 (Et (.agg #[oG AT g.nt cT,oG AN g.nn cN,oG AR g.R.length cR,g.s]) lv rv a9 (oG (j,0) N N) (oG (cb,0) N N) bv av ev fv))/\Hid (Am (·=mb) w wr)/\Hid (wr.ownsRow w 261 1 (oG (cb,0) N N) N CV)/\Hid (∀a0 x,CV[a0]?=oM x->DW (fun b=>cb<b/\b<wr.heap.size) wr (g.nt+1) x (if a0<s then CC.getD a0 [] else[])))
   case atStart=>
     refine⟨g.nt+1,_,Hd nX,Nat.lt_succ_self _,h4,oD,cy,cj,cm,d4,Hd (fun a0 x o=>?_)⟩;obtain⟨h1,rfl⟩:=sG.1 o;rw[List.getElem_replicate];split
     ·rw[cP di.out nX]
      exact DW.Jj _ _ _
     ·exact DW.Jj _ _ _
   case round=>
     obtain⟨s,CV,g3,ca,f0,rfl,bd,ah,dh,bu,e5⟩:=hrel;rename oU=>w8
     have fg:=Hd bd.CR.below;have z0:oT w8 (mb,0)=oM (oG AT g.nt cT):=Ah.cell ah 0;have z1:oT w8 (mb,1)=oM (oG AN g.nn cN):=Ah.cell ah 1;have z2:oT w8 (mb,2)=oM (oG AR g.R.length cR):=Ah.cell ah 2;have z3:oT w8 (mb,3)=oM (oH oO g.s):=Ah.cell ah 3;have dz:=Hd (HT w8 fg);have ds:=HN.out;by_cases b8:s<N
     ·have hp:(s:Int)<=(g.top:Int):=by omega
      have iz:(s:Int)<(N:Int):=by omega
      clear ds;go_upto_region 22 with(
                   go_at_call 129;refine dz.mono ?_;rintro e w4 ⟨rfl,bi⟩
                   have a6:=Hd bi;clear bi)
      have cx:=Hd (bd.later a6);have bc:=Hd (ah.below a6 ah.lt);have e1:=Hd (AU bu a6);have fk:=Hd (dh.next (Am.AJ a6));have z8:oT w4 (mb,8)=oM (oG (cb,0) N N):=Ah.cell bc 8;have j4:=bc.lt;have dj:Hid (() 183 #[(mb,0),oH oO s] w4.drew fun e w'=>∃A c,e=oQ (oG A (CC.getD s []).length c)/\DW (fun b=>w4.heap.size<=b/\b<w'.heap.size) w' (g.nt+1) (oG A (CC.getD s []).length c) (CC.getD s [])/\Below w4 w4 w'):=Hd (by
       have hd:Below w4 w4 w4.drew:=(Below.refl _ w4).drew;have hb:=bc.drew;refine(fq w4.drew #[] s (cx.later hd) (fun b4 hj=>?_) (Ah.cell hb 5) (Ah.cell hb 6) (Ah.cell hb 7) ca b8).mono ?_
       ·rw[hb.cell]
        match b4,hj with
        | 0,_=>rfl
        | 1,_=>rfl
        | 2,_=>rfl
        | 3,_=>rfl
       ·rintro e w' ⟨A,c,rfl,h1,h2⟩
        exact⟨A,c,rfl,h1,hd.trans h2⟩)
      obtain⟨cs,b0⟩:∃cs,CC.getD s []=cs:=⟨_,rfl⟩
      rw[b0]at dj;have fr:=Hd b0;clear b0 z0 z1 z2 z3;have gp:=(B6 e1 cb rfl).1;have fm:=Hd gp;generalize d8:cs.length=cl at *;have i2:=Hd d8;clear d8;go_region_law (first|(
                   go_simp;go_at_call 183;refine dj.mono ?_;rintro e w5 ⟨A5,c5,rfl,h5,c8⟩;have H5:=Hd h5;have bm:=Hd c8;have bn:=Hd (bc.below c8 bc.lt);have aq:=Hd (AU e1 c8);have j9:oT w5 (mb,8)=oM (oG (cb,0) N N):=Ah.cell bn 8;have j7:=bn.lt;have ic:=GD aq s;have gi:=Bh aq s nX;have ei:CV[s]?=oM (CV[s]'(by have:=aq.1;omega)):=eG _;rw[ei]at gi;have j1:=(B6 aq cb rfl).1;clear h5 c8 ei))
      all_goals go_wp2_with fail
      all_goals go_roundg (N-(s+1))
      all_goals first
       | (have:=g3.out;omega)
       | (
         obtain⟨ib,eh⟩:∃bw,Ah w5 cb 261 bw:=by
           rcases aq.2 with⟨hh,_⟩|⟨g',cap,bw,hh,hB,gu,_⟩
           · cases hh
           · cases hh;exact⟨bw,gu⟩
         have iq:=(B6 aq cb rfl).2;have b0:Am (·=cb) w5 (w5.setCell ⟨cb,s,oN⟩ (oG A5 cl c5)):=Am.set (X:=(·=cb)) (Am.refl _ w5) (p:=⟨cb,s,oN⟩) (.inr rfl) _;have ar:(w5.setCell ⟨cb,s,oN⟩ (oG A5 cl c5)).heap.size=w5.heap.size:=by simp[World.setCell]
         have d8:cb<w4.heap.size:=fm.out;have ij:=bm.size;have e8:=a6.size;have il:=cx.CR.base;refine⟨s+1,CV.set s (oG A5 cl c5),Hd nX,nX,nX,oD,Hd ((cx.later bm).S3 eh nX nY nY nY nY nY nY nY nY s _),Hd (bn.Bz (p:=⟨cb,s,oN⟩) (Ah.Bb bn eh nY) _),Hd ((fk.next (Am.AJ bm)).trans b0 (fun a0 hi e=>by have e2:a0=cb:=e;omega)),Hd (Ge aq s nX _),Hd (fun a0 x o=>?_)⟩
         by_cases el:a0=s
         · subst el
           rw[tG (by have:=aq.1;omega)]at o;cases o
           rw[if_pos (Nat.lt_succ_self _),fr.out];refine(H5.AA b0 (fun b hb e=>by have e2:b=cb:=e;omega)).mono fun b hb=>?_
           rw[ar];omega
         · rw[uG (fun e=>el e.symm)]at o
           have h8:=e5 a0 x o;have h9:=(h8.AA (Am.AJ (X:=fun _=>False) (a6.trans (bm.mono e8))) (fun _ _=>id)).AA b0 (fun b hb e=>by have e2:b=cb:=e;omega);have e3:(if a0<s+1 then CC.getD a0 [] else[])=(if a0<s then CC.getD a0 [] else[]):=by
             by_cases h:a0<s
             ·rw[if_pos h,if_pos nX]
             ·rw[if_neg h,if_neg nX]
           rw[e3];refine h9.mono fun b hb=>?_
           rw[ar];omega)
     ·obtain rfl:s=N:=by omega
      have hp:¬((s:Int)<=(g.top:Int)):=by omega
      clear ds;go_wp2_with (
               go_at_call 129;refine dz.mono ?_;rintro e w4 ⟨rfl,bi⟩
               have a6:=Hd bi;clear bi)
      go_end0
      have hM:=bd.later a6;have e8:=a6.size;obtain⟨d1,d2,d3⟩:=hM.done a5.1 a5.2 et f3;refine⟨rfl,hM.CR.below,hM.CR.size,dh.next (Am.AJ a6),rv,a9,_,_,ah.below a6 ah.lt,d1,d2,?_,?_⟩
      ·rw[<-HN.out]at d3 ⊢
       exact d3
      ·rw[<-HN.out]
       have hV:=AU bu a6;have ip:=(B6 bu cb rfl).2;have f1:∀b,w.heap.size<=b->b<w4.heap.size->Hp P w w4 b:=fun b a1 a2=>⟨.inr a1,a2⟩
       refine Bq.MX hV nX f1 fun a0 x o=>?_
       have hi:a0<s:=by have h1:=(sG.1 o).1;have h2:=bu.1;omega
       have h8:=e5 a0 x o;rw[if_pos hi]at h8;exact(h8.AA (Am.AJ (X:=fun _=>False) a6) (fun _ _=>id)).mono fun b hb=>f1 b nX nX
