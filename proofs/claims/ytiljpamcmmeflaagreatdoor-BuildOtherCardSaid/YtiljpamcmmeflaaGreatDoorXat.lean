/- . -/
import Derived.Test.YtiljpamcmmeflaaGreatDoorXas
import Derived.Test.YtiljpamcmmeflaaGreatDoorXap
set_option linter.all false
set_option maxRecDepth 100000
set_option maxHeartbeats 16000000
namespace Go.Proofs.YtiljpamcmmeflaaGreatDoor
open Go.RowKit
open Value renaming slice→nC,int→nE,bool→nI
open Option renaming some→nJ,none→nK
open IntKind renaming i64→nM
open Obj renaming cells→nO
open Ending renaming returned→nP
open World renaming cell?→nQ
open Go renaming World→nS,Value→nU
variable{w:nS}{v:nU}{C l:List Nat}{j:List (List AZ)}{g:Gz}{T:List (List (Nat×Bool))}
def Y2(h:Bv w v l)(hl:l.length<=1000000)(s:Nat) :
  () 66 #[v,s] w fun e w'=>∃r:Int,e=nP r/\(0<=r<->s∈l)/\w'=w:=by
 obtain⟨⟨Ad,c,rfl,U⟩,-,-⟩:=h;obtain⟨n,t⟩:∃n,l.length=n:=⟨_,rfl⟩
 have HC:=Hd U;have P:=Hd t;rw[t]at hl ⊢;clear U t;go_enter Tryz.func66,Tryz.ntmps66
 go_wp2_with fail
 go_loopw [8] (fun ii wr=>∃k:Nat,k<=n/\ii=nE nM k/\Hid (wr=w/\∀j,j<k->l[j]?≠nJ s)) (fun ii _=>n-(intOf ii).toNat)
 case atStart=>exact⟨0,A0 _,rfl,Hd ⟨rfl,fun j o=>by omega⟩⟩
 case round=>
  obtain⟨k,hk,rfl,I⟩:=hrel;obtain⟨hw,T⟩:=I.out;have a2:=hw.symm;subst a2;clear hw;have J:=Hd T;clear T I;by_cases a0:k<n
  ·obtain⟨x,C⟩:∃x,l[k]?=nJ x:=⟨_,eG (by rw[P.out];exact a0)⟩
   obtain⟨b,off,rfl,a3,d0⟩:=HC k x C;unfold AS at d0;have R:=Hd C;clear C;by_cases i:x=s
   ·have a1:((s:Int)==(x:Int))=true:=by rw[i];simp
    have p:=Hd i;clear i;go_wp2_with fail
    go_ret;exact⟨_,rfl,⟨fun _=>mG (by rw[<-p.out];exact R),fun _=>by omega⟩,rfl⟩
   ·have a1:((s:Int)==(x:Int))=false:=by rw[bN];omega
    have p:=Hd i;clear i;go_wp2_with fail
    go_roundw
    case rel=>exact⟨k+1,mR,mY,Hd ⟨trivial,fun j o=>by
     by_cases e:j=k
     ·rw[e,R.out]
      intro h;exact p (Option.some.inj h)
     ·exact J j mR⟩⟩
    case measure=>simp[intOf];omega
  ·obtain rfl:k=n:=by omega
   go_wp2_with fail
   go_ret;refine⟨_,rfl,⟨fun h=>by omega,fun h=>?_⟩,rfl⟩;obtain⟨j,o,e⟩:=List.mem_iff_getElem.1 h;exact absurd (by rw[eG o,e]) (J j (by rw[<-P.out];exact o))
def Mt(h:Bv w v l)(t:l.length<=1000000)(s:Nat) :
  () 34 #[v,s] w fun e w'=>e=nP (nI (decide (s∈l)))/\w'=w:=by
 have j:=Hd (Y2 h t s);obtain⟨⟨C,c,rfl,p⟩,-,-⟩:=h;clear p;go_enter Tryz.func34,Tryz.ntmps34
 go_wp2_with (go_at_call 66;refine j.mono ?_;rintro e w' ⟨r,rfl,i,rfl⟩;have o:=Hd i;clear i)
 go_ret;refine⟨?_,rfl⟩;exact congrArg (fun b=>Ending.returned (nI b)) (decide_eq_decide.2 o)
def Iy(z:AH×(Nat×Bool)):List nU:=[z.1.v,nI z.2.2]
structure Gf(w1 wr:nS)(m:Nat)(sv:nU)(Z:List (AH×(Nat×Bool))):Prop where
 below:Below w1 w1 wr
 row:wr.ownsRow w1 287 2 sv Z.length (Z.flatMap Iy)
 Pu:∀z∈Z,AU wr z.1 z.2.1/\z.1.n=m/\w1.heap.size<=z.1.h/\w1.heap.size<=z.1.wb
variable{wr:nS}{m:Nat}{Z:List (AH×(Nat×Bool))}
def Gf.start(i:nS)(m:Nat):Gf i i m (nC nK 0 0) []:=⟨Below.refl _ _,⟨rfl,.inl ⟨rfl,rfl⟩⟩,fun z j=>by cases j⟩
def Gf.later{l w2:nS}{j:nU}(h:Gf l wr m j Z)(i:Below wr wr w2):Gf l w2 m j Z:=
 ⟨h.below.trans (i.mono h.below.size),AV h.row i,fun z o=>by obtain⟨a,b⟩:=h.Pu z o;exact⟨a.later i,b⟩⟩
def Gf.more{i w2 o:nS}{R:nU}(h:Gf i w2 m R Z){t:AH}{S:Nat}{e:Bool}(I:AU w2 t S)(C:t.n=m)(p:i.heap.size<=t.h/\i.heap.size<=t.wb){A:Option Addr}{c:Nat}
  (P:o.ownsRow i 287 2 (nC A (Z.length+1) c) (Z.length+1) (Z.flatMap Iy++Iy (t,(S,e)))) (l:AI i [287] w2 o):Gf i o m (nC A (Z.length+1) c) (Z++[(t,(S,e))]):=by
 refine⟨h.below.trans (l.below h.below.size),?_,fun z J=>?_⟩
 ·rw[List.flatMap_append,BS]
  simpa using P
 ·rcases mA.1 J with j|j
  ·obtain⟨a,b⟩:=h.Pu z j
   exact⟨a.keeps l mT mT,b⟩
  ·rw[mS.1 j]
   exact⟨I.keeps l mT mT,C,p⟩
def Gf.VP{R:nS}{lo:Nat}{P:nU}(h:Gf R wr m P Z)(a2:lo<=R.heap.size)(J:Z.length<=1000000):Fi (Kd lo wr.heap.size wr) wr m P (Z.map (·.2)):=by
 unfold Fi;rw[lM];rcases Bg h.row with⟨I,l⟩|⟨b,c,rfl,I,l,U,_,a1,hb⟩
 ·exact⟨nK,0,by rw[I,l],mR,J,fun k o=>by omega⟩
 ·refine⟨_,c,rfl,U,J,fun k o=>⟨b,0,rfl,⟨mR,l,_,_,hb,.inl rfl⟩,l,fun j hj=>?_⟩⟩
  obtain⟨z,p⟩:∃z,Z[k]?=nJ z:=⟨_,eG o⟩
  obtain⟨_,a0⟩:=sG.1 p;have hg:(Z.map (·.2)).getD k (0,false)=z.2:=by rw[dG,pG,p];rfl
  have t:=CR Iy 2 (fun _=>rfl) Z k 0 o mR;have C:=CR Iy 2 (fun _=>rfl) Z k 1 o mR;rw[a0]at t C;obtain⟨i,T,a3,a4⟩:=h.Pu z (mG p);show ∃x,nQ wr (b,0+k*2+j)=nJ x/\(if j=0 then ∃h:AH,x=h.v/\h.n=m/\IM (Kd lo wr.heap.size wr) wr h ((Z.map (·.2)).getD k (0,false)).1 else x=nI ((Z.map (·.2)).getD k (0,false)).2)
  rw[hg,Nat.zero_add]
  match j,hj with
  | 0,_=>exact⟨z.1.v,by rw[Bb h.row _ mR,t];rfl,z.1,rfl,T,i,⟨mR,i.head.lt,_,_,i.head,.inr (.inl rfl)⟩,⟨mR,i.words.lt,_,_,i.words,.inr (.inr rfl)⟩⟩
  | 1,_=>exact⟨nI z.2.2,by rw[Bb h.row _ mR,C];rfl,rfl⟩
theorem SE{E n:Nat}{C:List Nat}:∀(l:List Nat) (S:Nat),(∀i,C.getD i 0<2 ^ n)->S<2 ^ n->(Dm E C l S).1<2 ^ n
 | [],S,_,h=>h
 | x::l,S,o,h=>by
  unfold Dm;have j:=Nat.or_lt_two_pow h (o x);split
  ·exact SE l _ o j
  ·exact j
theorem BB.Yt{t:nS}{F:Fs}{E:Nat}(h:BB t wr F g E C)(l:List Nat):(Dm E C l 0).1<2 ^ (g.nt+1):=by
 refine SE l 0 (fun i=>?_) (Nat.two_pow_pos _);cases j:F.P[i]? with
 | none=>have:=List.getElem?_eq_none_iff.1 j;rw[dG,nG (by rw[<-h.AP.len];exact this)];exact Nat.two_pow_pos _
 | some p=>have o:=(h.AP.at_ i p j).fit;rw[h.AP.room p (mG j)]at o;exact o
theorem M5{g:Gz}{T:List (List (Nat×Bool))}:∀(N:Nat) (i:List (List AZ)),g.Db T N=nJ i->i.length=N/\∀k,k<=N->g.Db T k=nJ (i.take k)
 | 0,i,h=>by
  unfold Gz.Db at h;cases h
  exact⟨rfl,fun k t=>by
       obtain rfl:k=0:=by omega
       rfl⟩
 | N+1,i,h=>by
  have h0:=h;unfold Gz.Db at h;cases j:g.Db T N with
  | none=>rw[j]at h;cases h
  | some l=>
   rw[j]at h;obtain⟨o,p⟩:=M5 N l j;obtain⟨x,rfl⟩:∃x,i=l++[x]:=by
    simp only at h;split at h
    ·cases h;exact⟨_,rfl⟩
    ·split at h
     ·cases h
     ·cases h;exact⟨_,rfl⟩
   refine⟨by simp[o],fun k t=>?_⟩;by_cases C:k=N+1
   ·subst C
    rw[Dd (by simp[o])];exact h0
   ·rw[List.take_append_of_le_length mR]
    exact p k mR
theorem Yv{N s:Nat}(h:g.Db T N=nJ j)(C:g.nt<s)(I:s<N):g.JB T s=nJ (j.getD s []):=by
 obtain⟨J,p⟩:=M5 N j h;have i:=p (s+1) mR;unfold Gz.Db at i;rw[p s mR]at i;simp only at i;rw[if_neg mR]at i;cases t:g.JB T s with
 | none=>rw[t]at i;cases i
 | some r=>rw[t]at i;have o:=congrArg (fun l=>l[s]?) (Option.some.inj i);rw[List.getElem?_append_right mX,List.getElem?_take_of_lt mR,List.length_take]at o;rw[show s-min s j.length=0 by omega]at o;rw[dG,<-o];rfl
def VV{N s:Nat}(h:g.Db T N=nJ j)(t:s<=g.nt):j.getD s []=[]:=by
 obtain⟨I,p⟩:=M5 N j h;rw[dG];by_cases C:s<N
 ·have i:=p (s+1) mR
  unfold Gz.Db at i;rw[p s mR]at i;simp only at i;rw[if_pos t]at i;have o:=congrArg (fun l=>l[s]?) (Option.some.inj i);rw[List.getElem?_append_right mX,List.getElem?_take_of_lt mR,List.length_take]at o;rw[show s-min s j.length=0 by omega]at o;rw[<-o];rfl
 ·rw[nG mR]
  rfl
def DZ.I2(A:Nat->Prop)(w:nS)(m:Nat):DZ A w m (nC nK 0 0) []:=⟨nK,0,rfl,AF _,mV,fun k i=>by simp at i⟩
def OT(i w:nS)(mb:Nat)(v R I C J P:nU)(g:Gz)(T:List (List (Nat×Bool)))(t:List (List AZ))(e:Ending)(w':nS):Prop:=
 e=nP (.tuple #[])/\Below i i w'/\w.heap.size<=w'.heap.size/\Aj (·=mb) w w'/\∃l o p j,Ah w' mb 253 (EH v R l o p j I C J P) /\
  Dl (Ho i w w') w' l (g.R.length+1) g.right/\FY (Ho i w w') w' (g.nt+1) o (g.R.length+1) T/\Dl (Ho i w w') w' p (g.top+1) g.CF/\Jh (Ho i w w') w' (g.nt+1) j (g.top+1) t
def Zl{P:nS}{mb:Nat}{lv fe ad bv av ev fv:nU}{f E:Nat}{CC:List (List AZ)}(b3:GN P v g)(bh:Below P P w)(eo:P.heap.size<=mb)(az:Ah w mb 253 (EH v lv (nC nK 0 0) (nC nK 0 0) fe ad bv av ev fv))(hf:KG g f=nJ (E,C))(eb:T=(List.range (g.R.length+1)).map (g.DD E C))(eg:g.Db T (g.top+1)=nJ CC) :
  () 148 #[(mb,0)] w (OT P w mb v lv bv av ev fv g T CC):=by
 have bj:=b3.fit;have gz:=bj.nn;have eu:=bj.nt;have et:=bj.nr;obtain⟨N,hN⟩:∃N,N=g.top+1:=⟨_,rfl⟩
 have ik:N<=1000:=by unfold Gz.top at hN;omega
 have f3:g.top<=1000:=by omega
 have ir:IntKind.i64.wrap ((g.top:Int)+1)=(g.top:Int)+1:=by rw[IntKind.wrap_i64];omega
 have gw:=fun y=>Ji (P:=Tryz.prog) (t:=98) (e:=34) (z:=nC nK 0 0) (bytes:=24) Tryz.underlying98 mU rfl (l:=((g.top:Nat):Int)+1) (n:=N) mR mR mR y
 have gx:=fun y=>Ji (P:=Tryz.prog) (t:=249) (e:=288) (z:=nC nK 0 0) (bytes:=24) Tryz.underlying249 mU rfl (l:=((g.top:Nat):Int)+1) (n:=N) mR mR mR y
 have HT:=Hd (fun y (t:Below P P y)=>LV (b3.later t));have fw:Hid (∀y,Below P P y->() 188 #[v] y fun e w'=>∃F:Fs,e=nP (F.q,0)/\BB P w' F g E C/\Below y y w'):=Hd (fun y t=>by refine(YB (b3.later t) hf).mono ?_;rintro e w' ⟨F,rfl,hF⟩;exact⟨F,rfl,hF.BC t,hF.below⟩)
 have g6:=Hd (fun y (t:Below P P y) (k:Nat) (hk:k<=g.R.length)=>Ri b3 t hk);have fp:=Hd (fun y (t:Below P P y)=>b3.later t);have cp:=Hd bj;have e0:=Hd eb;have di:=Hd eg;obtain⟨AT,cT,AN,cN,AR,cR,rfl,hc,gm⟩:=b3.open_;have fh:=Hd az;have bb:=Hd bh;have HN:=Hd hN;have bq:=Hd eo;have y0:nQ w (mb,0)=nJ (nC AT g.nt cT):=Ah.cell az 0;have y1:nQ w (mb,1)=nJ (nC AN g.nn cN):=Ah.cell az 1;have y2:nQ w (mb,2)=nJ (nC AR g.R.length cR):=Ah.cell az 2;have y3:nQ w (mb,3)=nJ (nE nM g.s):=Ah.cell az 3
 have l0:=az.lt;have fx:=Hd l0;clear b3 bh az hf eg hc gm bj gz hN eo eb;go_enter Tryz.func148,Tryz.ntmps148
 go_wp2_with (first
  | (
    go_at_call 188;refine(fw _ bb).mono ?_;rintro e w1 ⟨F,rfl,hF,c0⟩
    have HF:=Hd hF;have dd:=Hd c0;have b1:=fh.below c0 fx;have de:=Hd b1;have z0:nQ w1 (mb,0)=nJ (nC AT g.nt cT):=Ah.cell b1 0;have z1:nQ w1 (mb,1)=nJ (nC AN g.nn cN):=Ah.cell b1 1;have z2:nQ w1 (mb,2)=nJ (nC AR g.R.length cR):=Ah.cell b1 2;have z3:nQ w1 (mb,3)=nJ (nE nM g.s):=Ah.cell b1 3;have l1:=Ah.lt b1;have fi:=Hd (bb.trans (c0.mono bb.size));clear b1 hF c0)
  | (
    go_at_call 22;refine(HT _ fi).mono ?_;rintro e i ⟨rfl,af⟩
    have au:=Hd (dd.trans (af.mono dd.size));have ft:=Hd (HF.later af);have b2:=de.below af (Ah.lt de);have df:=Hd b2;have f7:=Ah.frozen b2 7;have x7:nQ i (mb,7)=nJ fe:=Ah.cell b2 7;have x2:nQ i (mb,2)=nJ (nC AR g.R.length cR):=Ah.cell b2 2;have l2:=Ah.lt b2;clear b2 af))
 have cw:Hid (Cq P w ((i.setCell (mb,7) (nC (i,0) N N)).alloc (nO (Array.replicate N (nC nK 0 0)) 34)) F g E C (nC nK 0 0) (nC nK 0 0) i.heap.size N 0 [] [] (List.replicate N (nC nK 0 0,[])) []/\Ah ((i.setCell (mb,7) (nC (i,0) N N)).alloc (nO (Array.replicate N (nC nK 0 0)) 34)) mb 253 (EH (.agg #[nC AT g.nt cT,nC AN g.nn cN,nC AR g.R.length cR,g.s]) lv (nC nK 0 0) (nC nK 0 0) (nC (i,0) N N) ad bv av ev fv)/\Aj (·=mb) w ((i.setCell (mb,7) (nC (i,0) N N)).alloc (nO (Array.replicate N (nC nK 0 0)) 34))):=Hd (by
  have hs:=au.size;have ba:=bb.size;have ar:(i.setCell (mb,7) (nC (i,0) N N)).heap.size=i.heap.size:=by simp[World.setCell]
  have hc:Aj (·=mb) i (i.setCell (mb,7) (nC (i,0) N N)):=Aj.set (X:=(·=mb)) (Aj.refl _ i) (p:=⟨mb,7,nK⟩) (.inr rfl) _;have im:=(bb.trans (au.mono ba))
  have gj:=ft.T5 hc (fun b hb=>by subst hb;exact⟨bq,_,_,df,mT,mT,mT,mT⟩);have e9:=gj.later (DE (i.setCell (mb,7) (nC (i,0) N N)) (nO (Array.replicate N (nC nK 0 0)) 34));have ej:=ES.fresh (i.setCell (mb,7) (nC (i,0) N N)) (B:=w.heap.size) (n:=N) (by rw[ar];exact hs) mR;rw[ar]at ej;refine⟨⟨⟨e9.below,by simp[ar];omega,ba,e9,(fun a0 x o=>by simp at o),(fun a0 x o=>by simp at o)⟩,⟨rfl,.inl ⟨rfl,rfl⟩⟩,by rw[<-HN.out];exact ej,?_,⟨rfl,.inl ⟨rfl,rfl⟩⟩,by simp[Value.ownBlock]⟩,(df.AW 7 (nC (i,0) N N)).alloc _,((Aj.AJ au).next hc).alloc _⟩
  rw[List.map_replicate,<-HN.out];apply List.ext_getElem?;intro a0;rw[pG];by_cases hi:a0<N
  ·rw[List.getElem?_range hi,List.getElem?_replicate,if_pos hi];rfl
  ·rw[nG mX,nG mX];rfl)
 generalize (i.setCell (mb,7) (nC (i,0) N N)).alloc (nO (Array.replicate N (nC nK 0 0)) 34)=W0 at *;generalize i.heap.size=j at *;clear f7 x7 x2 l2 y0 y1 y2 y3 z0 z1 z2 z3 l1 gw;go_loopg [33] (g.R.length+1) (fun n ii wr=>∃(k:Nat) (rv a9:nU) (RV TV:List nU) (a7:List (nU×List Nat)),Hid (n+k=g.R.length+1)/\k<=g.R.length+1/\ii=nE nM k/\Hid (RV.length=k/\TV.length=k)/\Hid (Cq P w wr F g E C rv a9 j N (min k g.R.length) RV TV a7 ((List.range k).map (g.DD E C)))/\Hid (Ah wr mb 253 (EH (.agg #[nC AT g.nt cT,nC AN g.nn cN,nC AR g.R.length cR,g.s]) lv rv a9 (nC (j,0) N N) ad bv av ev fv))/\Hid (Aj (·=mb) w wr))
 case atStart=>exact⟨0,_,_,[],[],_,Hd rfl,mR,rfl,Hd ⟨rfl,rfl⟩,Hd (by simpa using cw.1),Hd cw.2.1,Hd cw.2.2⟩
 case round=>
  obtain⟨k,rv,a9,RV,TV,a7,dt,hk,rfl,a5,HM,ab,cn⟩:=hrel;rename nS=>w9
  have ai:=Hd HM.CM.below;have z0:nQ w9 (mb,0)=nJ (nC AT g.nt cT):=Ah.cell ab 0;have z1:nQ w9 (mb,1)=nJ (nC AN g.nn cN):=Ah.cell ab 1;have z2:nQ w9 (mb,2)=nJ (nC AR g.R.length cR):=Ah.cell ab 2;have z3:nQ w9 (mb,3)=nJ (nE nM g.s):=Ah.cell ab 3;by_cases iy:k<g.R.length+1
  ·have bt:=Hd (g6 w9 ai k mR)
   have gv:(k:Int)<(g.R.length:Int)+1:=by omega
   obtain⟨Ar,cr,ez⟩:=CS HM.Hu;obtain⟨At,ct,f4⟩:=CS HM.Hi;rw[a5.1]at ez;rw[a5.2]at f4;subst ez;subst f4;obtain⟨left,b7⟩:∃a3,(g.AX k).1=a3:=⟨_,rfl⟩
   unfold MR at bt;rw[b7]at bt;have fy:=Hd b7;clear b7;go_upto_region 6 with(
                  go_at_call 80;refine bt.mono ?_;rintro e i ⟨xv,rfl,hn,hb,h0,h1⟩
                  obtain⟨⟨p,l,hw,-⟩,-,-⟩:=id hn;subst hw;have ax:=Hd hn;have gh:=Hd h0;have e4:=Hd h1;have au:=Hd hb;clear hn h0 h1 hb)
   have hg:i.heap.size<=(i.alloc (nO #[left,nC p (g.right k).length l] 145)).heap.size:=by simp
   have b6:Hid (Ah (i.alloc (nO #[left,nC p (g.right k).length l] 145)) i.heap.size 145 #[left,nC p (g.right k).length l]):=Hd (Ah.new i 145 _);have ak:Hid (Below w9 w9 (i.alloc (nO #[left,nC p (g.right k).length l] 145))):=Hd (au.alloc au.size _);have du:Hid (Bv (i.alloc (nO #[left,nC p (g.right k).length l] 145)) (nC p (g.right k).length l) (g.right k)):=Hd (ax.later (AE i _));have e6:Hid (k=g.R.length->∃b,(nC p (g.right k).length l:nU)=nC (nJ ⟨b,0,nK⟩) 1 1/\w9.heap.size<=b/\∃cs,Ah (i.alloc (nO #[left,nC p (g.right k).length l] 145)) b 3 cs):=Hd (fun e=>by obtain⟨b,h1,h2,cs,h3⟩:=e4 e;exact⟨b,h1,h2,cs,h3.alloc _⟩)
   generalize i.alloc (nO #[left,nC p (g.right k).length l] 145)=W at *;generalize i.heap.size=rb at *;have an:=Hd (HM.later ak);have aw:=Hd (ab.below ak ab.lt);have dm:=Hd (cn.next (Aj.AJ ak));clear hg z0 z1 z2 z3 au ax e4;have r0:nQ W (rb,0)=nJ (nE nM left):=Ah.cell b6 0;have r1:nQ W (rb,1)=nJ (nC p (g.right k).length l):=Ah.cell b6 1;have rl:=b6.lt;have z5:nQ W (mb,5)=nJ (nC Ar k cr):=Ah.cell aw 5;have ml:=aw.lt
   go_cut [] (fun wx=>∃(A6:Option Addr) (c6:Nat),Hid (Cq P w wx F g E C (nC A6 (k+1) c6) (nC At k ct) j N (min k g.R.length) (RV++[nC p (g.right k).length l]) TV a7 ((List.range k).map (g.DD E C)))/\Hid (Ah wx mb 253 (EH (.agg #[nC AT g.nt cT,nC AN g.nn cN,nC AR g.R.length cR,g.s]) lv (nC A6 (k+1) c6) (nC At k ct) (nC (j,0) N N) ad bv av ev fv))/\Hid (Aj (·=mb) w wx)/\Hid (Ah wx rb 145 #[left,nC p (g.right k).length l]))
   case first=>
     have bp:Hid (∀(Y R:nS) (A6:Option Addr) (c6:Nat),Below W W Y->R.ownsRow w 34 1 (nC A6 (k+1) c6) (k+1) (RV++[nC p (g.right k).length l])->AI w [34] Y R->(Y.grownBy R (Value.slice Ar k cr).ownBlock/\((Value.slice A6 (k+1) c6).ownBlock=(Value.slice Ar k cr).ownBlock\/(Value.slice A6 (k+1) c6).ownBlock=nJ Y.heap.size)) ->
       Hid (Cq P w (R.setCell (mb,5) (nC A6 (k+1) c6)) F g E C (nC A6 (k+1) c6) (nC At k ct) j N (min k g.R.length) (RV++[nC p (g.right k).length l]) TV a7 ((List.range k).map (g.DD E C)))/\Hid (Ah (R.setCell (mb,5) (nC A6 (k+1) c6)) mb 253 (EH (.agg #[nC AT g.nt cT,nC AN g.nn cN,nC AR g.R.length cR,g.s]) lv (nC A6 (k+1) c6) (nC At k ct) (nC (j,0) N N) ad bv av ev fv))/\Hid (Aj (·=mb) w (R.setCell (mb,5) (nC A6 (k+1) c6)))/\Hid (Ah (R.setCell (mb,5) (nC A6 (k+1) c6)) rb 145 #[left,nC p (g.right k).length l])):=Hd (fun Y R A6 c6 t q1 J q3=>by
      have hl:=a5.1;have hY:=an.later t;have d7:=J.Ap (aw.below t aw.lt) (.inr mT);have ew:=J.Ap (b6.below t b6.lt) (.inr mT);have hM:=hY.YR (x:=nC p (g.right k).length l) (A:=A6) (c:=c6) mR (by rw[hl];exact q1) (by rw[hl];exact q3) (by rw[hl];exact du.later t) (by rw[hl];exact gh) (by rw[hl];intro e;obtain⟨b,h1,h2,cs,h3⟩:=e6 e;exact⟨b,h1,AY HM.CM.size h2,cs,h3.below t h3.lt⟩)
      rw[hl]at hM;have gy:rb≠mb:=Ah.Bh ew d7 mT;refine⟨Hd (hM.BC d7 bq 5 _),Hd (d7.AW 5 _),Hd ((dm.next (Aj.AJ t)).trans (Y:=fun b=>b=mb\/w.heap.size<=b) ((J.Ay.mono fun b hb=>.inr hb).next (Aj.set (X:=fun b=>b=mb\/w.heap.size<=b) (Aj.refl _ R) (p:=⟨mb,5,nK⟩) (.inr (.inl rfl)) _)) (fun a0 hi o=>o.resolve_right mR)),Hd (ew.BC (p:=⟨mb,5,nK⟩) gy _)⟩)
     have br:Hid (W.ownsRow w 34 1 (nC Ar k cr) k RV):=Hd (by have h:=an.Hu;rw[a5.1]at h;exact h);go_region_law (
               refine Fe L9 (.tmp 49) (.tmp 52) ?_ ?_ (base:=w.heap.size) (n:=k) (m:=1) (N:=k+1) (v:=nC Ar k cr) (src:=nC (W,0) 1 1) (xs:=RV) (news:=[nC p (g.right k).length l]) ?_ ?_ ?_ ?_ ?_ ?_ ?_ ?_ ?_
               ·rfl
               ·rfl
               ·rfl
               ·rfl
               ·first|exact(AV br ((Below.refl _ W).drew)).alloc _|exact AV (br.alloc _) ((Below.refl _ _).drew)
               ·first|exact Ba.Ap (c:=1) (cs:=[nC p (g.right k).length l]) (Ah.new W.drew 34 _) rfl mZ|exact Ba.Ap (c:=1) (cs:=[nC p (g.right k).length l]) (Ah.drew (Ah.new W 34 _)) rfl mZ
               ·rfl
               ·unfold maxLen;omega
               ·omega
               ·have:=an.CM.size;simp;omega
               intro A6 c6 R q1 J q3;have dv:=Hd q1;have dw:=Hd J;have dx:=Hd q3;have ch:Hid (Ah R mb 253 (EH (.agg #[nC AT g.nt cT,nC AN g.nn cN,nC AR g.R.length cR,g.s]) lv (nC Ar k cr) (nC At k ct) (nC (j,0) N N) ad bv av ev fv)):=Hd (by first|exact J.Ap (aw.drew.alloc _) (.inr mT)|exact J.Ap (Ah.drew (aw.alloc _)) (.inr mT));have ia:nQ R (mb,5)=nJ (nC Ar k cr):=Ah.cell ch 5;have ie:=Ah.frozen ch 5;have j2:=ch.lt;clear q1 J q3)
     all_goals go_wp2_with fail
     all_goals go_meet
     all_goals first
      | exact⟨A6,c6,bp _ _ _ _ (((Below.refl _ W).drew).alloc (AF _) _) dv dw dx⟩
      | exact⟨A6,c6,bp _ _ _ _ (((Below.refl _ W).alloc (AF _) _).drew) dv dw dx⟩
   case rest=>
     obtain⟨A6,c6,a8,aj,ck,ao⟩:=hcut;rename nS=>R
     clear r0 r1 z5;have r0:nQ R (rb,0)=nJ (nE nM left):=Ah.cell ao 0;have r1:nQ R (rb,1)=nJ (nC p (g.right k).length l):=Ah.cell ao 1;have z2:nQ R (mb,2)=nJ (nC AR g.R.length cR):=Ah.cell aj 2;have z7:nQ R (mb,7)=nJ (nC (j,0) N N):=Ah.cell aj 7;have fd:=ao.lt;have fb:=aj.lt;have b7:k<g.R.length->(g.R.getD k (0,[])).1=left/\left<=g.top:=fun h=>by have h1:=fy.out;unfold Gz.AX at h1;rw[if_neg mR]at h1;refine⟨h1,?_⟩;have h2:=cp.left (g.R.getD k (0,[])) (by rw[dG,eG h];exact List.getElem_mem h);omega
     have dp:=Hd b7;clear b7
     go_upto_if 63 with fail
     go_cut [] (fun wx=>∃(R2:List (nU×List Nat)),Hid (Cq P w wx F g E C (nC A6 (k+1) c6) (nC At k ct) j N (min (k+1) g.R.length) (RV++[nC p (g.right k).length l]) TV R2 ((List.range k).map (g.DD E C)))/\Hid (Ah wx mb 253 (EH (.agg #[nC AT g.nt cT,nC AN g.nn cN,nC AR g.R.length cR,g.s]) lv (nC A6 (k+1) c6) (nC At k ct) (nC (j,0) N N) ad bv av ev fv))/\Hid (Aj (·=mb) w wx)/\Hid (Ah wx rb 145 #[left,nC p (g.right k).length l]))
     case first=>
      by_cases b8:k<g.R.length
      ·have em:(k:Int)<(g.R.length:Int):=by omega
       obtain⟨en,iu⟩:=dp b8;have gs:=a8.AP.len;obtain⟨⟨xv,U⟩,o⟩:∃x,a7[left]?=nJ x:=⟨_,eG mR⟩
       obtain⟨Au,cu,fa⟩:=CS (a8.AP.own left _ o);simp only at fa;subst fa;have ag:=a8.AP.row;rw[<-HN.out]at ag;have cc:=Bb ag left (by rw[HN.out];omega);rw[pG,o]at cc;simp only[Option.map_some]at cc;have ig:=GU ag left;have ht:=(BR ag j rfl).1;have br:Hid (R.ownsRow w 3 1 (nC Au U.length cu) U.length (U.map AS)):=Hd (a8.AP.own left _ o);have j0:U.length<=1000:=by
        have h3:(a7.map (·.2))[left]?=nJ U:=by rw[pG,o];rfl
        rw[a8.lists,pG]at h3;obtain⟨b4,hj,e⟩:=Option.map_eq_some_iff.1 h3;rw[<-e];have:=iI g (min k g.R.length) b4;omega
       have iw:(left:Int)<(N:Int):=by have:=HN.out;omega
       have HX:=Hd o;have d5:=Hd en;have ea:(RV++[(nC p (g.right k).length l:nU)]).length=k+1:=by have:=a5.1;simp;omega
       have b9:min k g.R.length=k:=by omega
       have da:min (k+1) g.R.length=k+1:=by omega
       have i9:=Hd (And.intro ea (And.intro b9 da));have bp:Hid (∀(Y I:nS) (A7:Option Addr) (c7:Nat),Below R R Y->I.ownsRow w 3 1 (nC A7 (U.length+1) c7) (U.length+1) (U.map AS++[nE nM (k:Nat)])->AI w [3] Y I->(Y.grownBy I (Value.slice Au U.length cu).ownBlock/\((Value.slice A7 (U.length+1) c7).ownBlock=(Value.slice Au U.length cu).ownBlock\/(Value.slice A7 (U.length+1) c7).ownBlock=nJ Y.heap.size)) ->
          ∃R2,Hid (Cq P w (I.setCell (j,left) (nC A7 (U.length+1) c7)) F g E C (nC A6 (k+1) c6) (nC At k ct) j N (min (k+1) g.R.length) (RV++[nC p (g.right k).length l]) TV R2 ((List.range k).map (g.DD E C)))/\Hid (Ah (I.setCell (j,left) (nC A7 (U.length+1) c7)) mb 253 (EH (.agg #[nC AT g.nt cT,nC AN g.nn cN,nC AR g.R.length cR,g.s]) lv (nC A6 (k+1) c6) (nC At k ct) (nC (j,0) N N) ad bv av ev fv))/\Hid (Aj (·=mb) w (I.setCell (j,left) (nC A7 (U.length+1) c7)))/\Hid (Ah (I.setCell (j,left) (nC A7 (U.length+1) c7)) rb 145 #[left,nC p (g.right k).length l])):=Hd (fun Y I A7 c7 t q1 J q3=>by
        have hM:=a8.out;rw[b9]at hM;obtain⟨R2,gl⟩:=hM.Yl mR HX d5 (nv:=nC A7 (U.length+1) c7) t q1 J q3;have ec:=J.Ap (aj.below t aj.lt) (.inr mT);have ey:=J.Ap (ao.below t ao.lt) (.inr mT);obtain⟨bw,gr⟩:=(a8.AP.later t).Ap;have ef:=J.Ap gr (.inr mT);have hr:w.heap.size<=j:=(BR ag j rfl).2;rw[da];refine⟨R2,Hd gl,Hd (ec.BC (p:=⟨j,left,nK⟩) (Ah.Bh ec ef mT) _),Hd ((ck.next (Aj.AJ t)).trans (Y:=fun b=>w.heap.size<=b) (J.Ay.next (Aj.set (X:=fun b=>w.heap.size<=b) (Aj.refl _ I) (p:=⟨j,left,nK⟩) (.inr hr) _)) (fun a0 hi o=>by omega)),Hd (ey.BC (p:=⟨j,left,nK⟩) (Ah.Bh ey ef mT) _)⟩)
       have g7:Hid (∀Y,Below R R Y->nQ Y (mb,7)=nJ (nC (j,0) N N)/\nQ Y (rb,0)=nJ (nE nM left)/\nQ Y (j,left)=nJ (nC Au U.length cu)):=Hd (fun Y t=>⟨(t.cell (p:=⟨mb,7,nK⟩) fb).trans z7,(t.cell (p:=⟨rb,0,nK⟩) fd).trans r0,(t.cell (p:=⟨j,left,nK⟩) ht).trans cc⟩);clear o ag en ea b9 da gs;go_upto_region 8 with fail
       refine CO 18 (fun v:nS=>nQ v (mb,7)=nJ (nC (j,0) N N)/\nQ v (rb,0)=nJ (nE nM left)/\nQ v (j,left)=nJ (nC Au U.length cu)) mU ?_;have a4:(fun v:nS=>nQ v (mb,7)=nJ (nC (j,0) N N)/\nQ v (rb,0)=nJ (nE nM left)/\nQ v (j,left)=nJ (nC Au U.length cu)) R.drew:=⟨z7,r0,cc⟩
       refine AG 0 a4 ?_;simp only[AD,AA];refine AG 1 a4 ?_;simp only[AD,AA];refine AG 2 a4 ?_;simp only[AD,AA];refine AG 3 a4 ?_;simp only[AD,AA];refine AG 4 a4 ?_;simp only[AD,AA];refine AG 5 a4 ?_;simp only[AD,AA];refine AG 6 a4 ?_;simp only[AD,AA];refine AG 7 a4 ?_;simp only[AD,AA];refine AG 8 a4 ?_;simp only[AD,AA];refine AG 9 a4 ?_;simp only[AD,AA];refine AG 10 a4 ?_;simp only[AD,AA];refine AG 11 a4 ?_;simp only[AD,AA];refine AG 12 a4 ?_;simp only[AD,AA];refine AG 13 a4 ?_;simp only[AD,AA]
       refine AG 14 a4 ?_;simp only[AD,AA];refine Be 15 mU rfl rfl (fun K hK=>?_);go_simp;refine hK _ _ (fun _=>?_) ?_
       ·exact g7 _ (((Below.refl _ R).alloc (AF _) _).drew)
       clear hK K a4;refine Co 16 mU rfl rfl rfl (fun K hK=>?_);refine Dt GW (.tmp 77) (.tmp 79) rfl (base:=w.heap.size) (n:=U.length) (m:=1) (N:=U.length+1) (v:=nC Au U.length cu) (src:=nC (R,0) 1 1) (xs:=U.map AS) (news:=[nE nM (k:Nat)]) rfl rfl (AV (br.alloc _) ((Below.refl _ _).drew)) (Ba.Ap (c:=1) (cs:=[nE nM (k:Nat)]) (Ah.drew (Ah.new R 3 _)) rfl mZ) rfl mW mR (by have:=a8.CM.size;simp;omega) ?_;intro A7 c7 I q1 J q3;have d0:Hid (I.ownsRow w 34 1 (nC (j,0) N N) N (a7.map (·.1))):=Hd (by have ag:=a8.AP.row;rw[<-HN.out]at ag;exact J.own (AV (ag.alloc _) ((Below.refl _ _).drew)) (.inr mT))
       have f5:nQ I (j,left)=nJ (nC Au U.length cu):=by rw[Bb d0.out left mR,pG,HX.out];rfl
       have ih:=GU d0 left;have j3:=(BR d0 j rfl).1;have g5:Hid (Ah I rb 145 #[left,nC p (g.right k).length l]):=Hd (J.Ap (Ah.drew (ao.alloc _)) (.inr mT));have al:Hid (Ah I mb 253 (EH (.agg #[nC AT g.nt cT,nC AN g.nn cN,nC AR g.R.length cR,g.s]) lv (nC A6 (k+1) c6) (nC At k ct) (nC (j,0) N N) ad bv av ev fv)):=Hd (J.Ap (Ah.drew (aj.alloc _)) (.inr mT));have fc:nQ I (rb,0)=nJ (nE nM left):=Ah.cell g5 0;have ff:nQ I (mb,7)=nJ (nC (j,0) N N):=Ah.cell al 7
       have fu:=Hd (bp _ I A7 c7 (((Below.refl _ R).alloc (AF _) _).drew) q1 J q3);clear q1 J q3;refine hK _ _ (fun _=>⟨ff,fc,f5⟩) ?_;clear hK K;simp only[List.set_cons_succ,List.set_cons_zero];have a4:(fun(v:nS)=>nQ v (mb,7)=nJ (nC (j,0) N N)/\nQ v (rb,0)=nJ (nE nM left)/\nQ v (j,left)=nJ (nC Au U.length cu)) I:=⟨ff,fc,f5⟩
       refine AG 17 a4 ?_;simp only[AD,AA];clear a4;refine Be 18 mU rfl rfl (fun K hK=>?_);go_simp;refine hK _ _ (fun h=>absurd rfl h) ?_;clear hK K;refine CI mU ?_ _;go_wp2_with fail
       go_meet
       exact fu
      ·have em:¬((k:Int)<(g.R.length:Int)):=by omega
       have b9:min k g.R.length=min (k+1) g.R.length:=by omega
       have dr:=a8;rw[b9]at dr;clear b9;go_wp2_with fail
       go_meet
       exact⟨a7,dr,aj,ck,ao⟩
     case rest=>
      obtain⟨R2,al,bo,fl,be⟩:=hcut;rename nS=>I
      clear r0 r1 z2 z7 HM ab cn b6 ak du e6 an aw dm a8 aj ck ao bt ai dp rl fd ml fb gv;have r1:nQ I (rb,1)=nJ (nC p (g.right k).length l):=Ah.cell be 1;have hx:=be.lt;have ax:Hid (Bv I (nC p (g.right k).length l) (g.right k)):=Hd (by have h:=al.CM.Hb k (nC p (g.right k).length l) (by rw[List.getElem?_append_right (by rw[a5.1];omega),a5.1,Nat.sub_self];rfl);exact h.1)
      obtain⟨len,bk⟩:∃n,(g.right k).length=n:=⟨_,rfl⟩
      have iv:len<=8:=by
       rw[<-bk];unfold Gz.right Gz.AX;split
       ·simp
       ·rw[dG]
        cases hq:g.R[k]? with
        | none=>simp
        | some r=>exact cp.short r (mG hq)
      have ix:len<=l:=by rw[<-bk];exact(ax.room _ _ _ rfl).1
      have d5:Hid (∀x∈g.right k,x<=g.top):=Hd (fun x o=>cp.Mn o);have cq:=Hd bk;rw[bk]at r1 ax al be;clear bk;have fz:Hid (∀y,Below I I y->∀lv (a3:List Nat),Bv y lv a3->(∀x∈a3,x<=g.top)->() 189 #[(F.q,0),lv] y fun e w'=>∃A c,e=nP (.tuple #[nC A (Bq (g.nt+1) (Dm E C a3 0).1).length c,nI (Dm E C a3 0).2])/\Bv w' (nC A (Bq (g.nt+1) (Dm E C a3 0).1).length c) (Bq (g.nt+1) (Dm E C a3 0).1)/\Below y y w'):=Hd (fun y t lv a3 h1 h2=>Yz (al.CM.fst.later t) h1 h2 eu)
      have g8:Hid (∀y,Below I I y->∀lv (a3:List Nat),Bv y lv a3->(∀x∈a3,x<=g.nt)->() 190 #[(mb,0),lv] y fun e w'=>∃h:AH,e=nP h.v/\h.n=g.nt+1/\y.heap.size<=h.h/\y.heap.size<=h.wb/\AU w' h (G3 a3)/\Below y y w'):=Hd (fun y t lv a3 h1 h2=>P9 (w:=y) (Ah.cell (bo.below t bo.lt) 0) eu h1 h2);have g0:Hid (∀a3,(Dm E C a3 0).1<2 ^ (g.nt+1)):=Hd (fun a3=>al.CM.fst.Yt a3);go_wp2_with fail
      clear r1 hx;go_loopg [6,85] len (fun m sv ii wr=>∃(d:Nat) (Z:List (AH×(Nat×Bool))),Hid (m+d=len)/\d<=len/\ii=nE nM d/\Hid (Z.length=d)/\Hid (Gf I wr (g.nt+1) sv Z)/\Hid (Z.map (·.2)=(g.DD E C k).take d))
      case atStart=>exact⟨0,[],Hd rfl,A0 _,rfl,Hd rfl,Hd (Gf.start I _),Hd rfl⟩
      case round=>
       obtain⟨d,Z,cz,hd,rfl,bf,ay,d6⟩:=hrel;rename nS=>w8
       have aa:=Hd ay.below;have dy:=Hd (be.below aa be.lt);have r1:nQ w8 (rb,1)=nJ (nC p len l):=Ah.cell dy 1;have hy:=dy.lt;obtain⟨A5,c5,f2⟩:=CS ay.row;rw[bf.out]at f2;subst f2;by_cases b8:d<len
       ·obtain⟨x,o⟩:∃x,(g.right k)[d]?=nJ x:=⟨_,eG (by rw[cq.out];exact b8)⟩
        obtain⟨b,off,rfl,hb,gq⟩:∃b off,p=nJ ⟨b,off,nK⟩/\b<w8.heap.size/\nQ w8 ⟨b,off+d,nK⟩=nJ (nE nM x):=by
          obtain⟨⟨A',c',e,hc⟩,-,-⟩:=ax.later aa;cases e
          exact hc d x o
        obtain⟨sa,ho⟩:∃sa,(if l=d+1 then nJ (⟨b,off,nK⟩:Addr) else nJ ⟨b,off+(d+1),nK⟩)=sa:=⟨_,rfl⟩
        obtain⟨⟨SS,ee⟩,bz⟩:∃q,Dm E C ((g.right k).drop (d+1)) 0=q:=⟨_,rfl⟩
        have fs:Hid (Bv w8 (nC sa (len-(d+1)) (l-(d+1))) ((g.right k).drop (d+1))):=Hd (by have h:=(ax.later aa).cut (d+1) mR;rwa [ho]at h)
        have g9:Hid (SS<2 ^ (g.nt+1)):=Hd (by have h:=g0 ((g.right k).drop (d+1));rw[bz]at h;exact h);have dn:Hid (() 189 #[(F.q,0),nC sa (len-(d+1)) (l-(d+1))] w8 fun e w'=>∃A c,e=nP (.tuple #[nC A (Bq (g.nt+1) SS).length c,nI ee])/\Bv w' (nC A (Bq (g.nt+1) SS).length c) (Bq (g.nt+1) SS)/\Below w8 w8 w'):=Hd (by have h:=fz w8 aa _ _ fs (fun z hz=>d5 z (List.mem_of_mem_drop hz));rw[bz]at h;exact h)
        obtain⟨BL,bx⟩:∃a3,Bq (g.nt+1) SS=a3:=⟨_,rfl⟩
        have dg:Hid (G3 BL=SS/\∀x∈BL,x<=g.nt):=Hd ⟨by rw[<-bx];exact YV g9,fun x o=>by rw[<-bx]at o;have:=Xv o;omega⟩;rw[bx]at dn;have gd:Hid ((g.DD E C k).take (d+1)=(g.DD E C k).take d++[(SS,ee)]):=Hd (by
          have h:(g.DD E C k)[d]?=nJ (SS,ee):=by unfold Gz.DD;rw[pG,List.getElem?_range (by rw[cq.out];exact b8),<-bz];rfl
          rw[List.take_add_one,h];rfl)
        have i3:(0:Int)<=(d:Int)+1:=by omega
        have i4:(d:Int)+1<=(len:Int):=by omega
        have i5:(len:Int)<=(l:Int):=by omega
        have i6:IntKind.i64.wrap ((d:Int)+1)=(d:Int)+1:=by rw[IntKind.wrap_i64];omega
        have i7:d+1<=len:=by omega
        clear o gq hb bz bx;generalize ed:BL.length=bl at *;have i1:=Hd ed;clear ed;go_wp2_with (first
          | (
             go_at_call 189;refine dn.mono ?_;rintro e j8 ⟨A9,c9,rfl,es,ae⟩
             have g4:=Hd es;have ai:=Hd ae;have cf:=Hd (aa.trans (ae.mono aa.size));clear es ae)
          | (
             go_at_call 190;refine(g8 _ cf _ BL g4 dg.2).mono ?_;rintro e cd ⟨t0,rfl,er,ek,f6,ba,bh⟩
             rw[dg.1]at ba;have ga:=Hd (And.intro er (And.intro (And.intro ek f6) ba));have cg:=Hd (ai.trans (bh.mono ai.size));unfold AH.v;clear er ek f6 ba bh)
          | (
             at_builtin;refine Du VT (.tmp 98) (.tmp 104) rfl rfl (base:=I.heap.size) (n:=d) (m:=1) (N:=d+1) (xs:=Z.flatMap Iy) (news:=Iy (t0,(SS,ee))) rfl rfl (AV (by have h:=(ay.later cg).row;rw[bf.out]at h;exact h) (AE cd (nO #[(t0.h,0),nI ee] 287))) (Ba.Ap (c:=1) (cs:=Iy (t0,(SS,ee))) (Ah.new cd 287 _) rfl (fun u hu=>by unfold Iy at hu;simp at hu;rcases hu with rfl|rfl<;>rfl)) rfl mW mR (by have h1:=cf.size;have h2:=cg.size;have h3:=aa.size;simp;omega) ?_
             intro dc e7 i0 q1 J q3;have gf:Hid (Gf I i0 (g.nt+1) (nC dc (d+1) e7) (Z++[(t0,(SS,ee))])):=Hd (by have hh:=(ay.later cg).later (AE cd (nO #[(t0.h,0),nI ee] 287));have hz:=bf.out;have hb10:=cf.size;obtain⟨n0,⟨h0,h1⟩,s0⟩:=ga.out;have hm:=hh.more (t:=t0) (S:=SS) (e:=ee) (s0.later (AE cd _)) n0 ⟨mR,mR⟩ (A:=dc) (c:=e7) (by rw[hz];exact q1) J;rw[hz]at hm;exact hm)
             clear q1 J q3))
        go_roundg (len-(d+1))
        case measure=>have:=cz.out;omega
        case rel=>exact⟨d+1,Z++[(t0,(SS,ee))],Hd (by have:=cz.out;omega),mR,mY,Hd (by simp[bf.out]),gf,Hd (by rw[Bz,d6.out,gd.out];rfl)⟩
       ·obtain rfl:d=len:=by omega
        have an:=Hd (al.later aa);have ak:=Hd (bo.below aa bo.lt);have gb:Hid (Z.map (·.2)=g.DD E C k):=Hd (by have h:=d6.out;rw[Dd (by unfold Gz.DD;rw[lM,List.length_range,cq.out];exact AF _)]at h;exact h)
        have z6:nQ w8 (mb,6)=nJ (nC At k ct):=Ah.cell ak 6;have j5:=ak.lt;have it:k<=1000:=by omega
        clear r1 hy cz d6;go_wp2_with (
                 at_builtin;refine Du Ww (.tmp 111) (.tmp 113) rfl rfl (base:=w.heap.size) (n:=k) (m:=1) (N:=k+1) (xs:=TV) (news:=[nC A5 d c5]) rfl rfl (AV (by have h:=an.Hi;rw[a5.2]at h;exact h) (AE w8 (nO #[nC A5 d c5] 282))) (Ba.Ap (c:=1) (cs:=[nC A5 d c5]) (Ah.new w8 282 _) rfl mZ) rfl mW mR (by have:=an.CM.size;simp;omega) ?_
                 intro A9 c9 w9 q1 J q3;have ae:=J.Ap (ak.alloc (nO #[nC A5 d c5] 282)) (.inr mT);have ai:=Hd ae;have f9:=Ah.frozen ae 6;have z9:nQ w9 (mb,6)=nJ (nC At k ct):=Ah.cell ae 6;have l9:=ae.lt;have g2:Hid (∃R3,Cq P w (w9.setCell (mb,6) (nC A9 (k+1) c9)) F g E C (nC A6 (k+1) c6) (nC A9 (k+1) c9) j N (min (k+1) g.R.length) (RV++[nC p d l]) (TV++[nC A5 d c5]) R3 ((List.range (k+1)).map (g.DD E C))):=Hd (by
                  have hA:=an.later (AE w8 (nO #[nC A5 d c5] 282));have hT:=(ay.later (AE w8 (nO #[nC A5 d c5] 282))).VP (lo:=w.heap.size) (by have:=al.CM.size;omega) (by rw[bf.out];omega);rw[gb.out]at hT;have d9:=a5.2;have hM:=hA.Ln (x:=nC A5 d c5) (l:=g.DD E C k) (A:=A9) (c:=c9) (by rw[d9];exact q1) q3.1 hT (by rw[d9];simp);rw[d9]at hM;have e:(List.range (k+1)).map (g.DD E C)=(List.range k).map (g.DD E C)++[g.DD E C k]:=by rw[List.range_succ,Bz];rfl
                  rw[e];exact⟨_,hM.BC ae bq 6 _⟩)
                 have fo:Hid (Aj (·=mb) w (w9.setCell (mb,6) (nC A9 (k+1) c9))):=Hd (((fl.next (Aj.AJ aa)).alloc (nO #[nC A5 d c5] 282)).trans (Y:=fun b=>b=mb\/w.heap.size<=b) ((J.Ay.mono fun b hb=>.inr hb).next (Aj.set (X:=fun b=>b=mb\/w.heap.size<=b) (Aj.refl _ w9) (p:=⟨mb,6,nK⟩) (.inr (.inl rfl)) _)) (fun a0 hi o=>o.resolve_right mR));clear q1 J q3 ae)
        obtain⟨R3,bd⟩:=g2.out
        go_roundg (g.R.length-k)
        case measure=>have:=dt.out;omega
        case rel=>exact⟨k+1,_,_,_,_,R3,Hd (by have:=dt.out;omega),mR,mY,Hd ⟨by simp[a5.1],by simp[a5.2]⟩,Hd bd,Hd (ai.AW 6 _),fo⟩
  ·obtain rfl:k=g.R.length+1:=by omega
   have ep:min (g.R.length+1) g.R.length=g.R.length:=by omega
   have g1:Hid (Cq P w w9 F g E C rv a9 j N g.R.length RV TV a7 T):=Hd (by have h:=HM.out;rw[ep,<-e0.out]at h;exact h);have em:¬(((g.R.length:Int)+1)<((g.R.length:Int)+1)):=by omega
   have j6:=ab.lt;have ay:Hid (∀k,k<=g.R.length->(T.getD k []).length=(g.right k).length):=Hd (fun k hk=>by rw[e0.out,dG,pG,List.getElem?_range mR];unfold Gz.DD;simp)
   have fq:Hid (∀(y:nS) (mv:Array nU) (s:Nat),Cq P w y F g E C rv a9 j N g.R.length RV TV a7 T->(∀b4,b4<4->nQ y ⟨mb,b4,nK⟩=(Value.agg #[nC AT g.nt cT,nC AN g.nn cN,nC AR g.R.length cR,g.s]).cells[b4]?)->nQ y (mb,5)=nJ rv->nQ y (mb,6)=nJ a9->nQ y (mb,7)=nJ (nC (j,0) N N)->g.nt<s->s<N ->
      () 191 #[(mb,0),nE nM s] y fun e w'=>∃A c,e=nP (nC A (CC.getD s []).length c)/\DZ (fun b=>y.heap.size<=b/\b<w'.heap.size) w' (g.nt+1) (nC A (CC.getD s []).length c) (CC.getD s [])/\Below y y w'):=Hd (fun y mv s hM hc h5 h6 h7 ca f0=>by
     have he:s<g.top+1:=by rw[<-HN.out];exact f0
     obtain⟨d1,d2,d3⟩:=hM.done a5.1 a5.2 et f3;have db:∀b,Ho P w y b->Old y.heap.size b:=fun b hb=>hb.2
     rw[<-HN.out]at d3;refine(YA (fp y hM.CM.below) hc h5 h6 h7 (d1.mono db) (by rw[<-HN.out];exact d3.mono db) (d2.mono db) ay ca mR (Yv di ca he)).mono ?_;rintro e w' ⟨cv,rfl,h1,h2⟩;obtain⟨A,c,hv,hh⟩:=h1;exact⟨A,c,by rw[hv],⟨A,c,rfl,hh⟩,h2⟩)
   have gg:=Hd (HT w9 ai);have h4:g.nt+1<=N:=by have h:=HN.out;unfold Gz.top at h;omega
   clear HM ep;go_wp2_with (
             go_at_call 22;refine gg.mono ?_;rintro e i ⟨rfl,af⟩
             have dq:=Hd (g1.later af);have b5:=Hd (ab.below af ab.lt);have fj:=Hd (cn.next (Aj.AJ af));have f8:=Ah.frozen b5 8;have x8:nQ i (mb,8)=nJ ad:=Ah.cell b5 8;have x0:nQ i (mb,0)=nJ (nC AT g.nt cT):=Ah.cell b5 0;have l2:=b5.lt;clear af)
   have dk:Hid (Cq P w ((i.setCell (mb,8) (nC (i,0) N N)).alloc (nO (Array.replicate N (nC nK 0 0)) 288)) F g E C rv a9 j N g.R.length RV TV a7 T/\Ah ((i.setCell (mb,8) (nC (i,0) N N)).alloc (nO (Array.replicate N (nC nK 0 0)) 288)) mb 253 (EH (.agg #[nC AT g.nt cT,nC AN g.nn cN,nC AR g.R.length cR,g.s]) lv rv a9 (nC (j,0) N N) (nC (i,0) N N) bv av ev fv)/\Aj (·=mb) w ((i.setCell (mb,8) (nC (i,0) N N)).alloc (nO (Array.replicate N (nC nK 0 0)) 288)) /\
      ((i.setCell (mb,8) (nC (i,0) N N)).alloc (nO (Array.replicate N (nC nK 0 0)) 288)).ownsRow w 288 1 (nC (i,0) N N) N (List.replicate N (nC nK 0 0))):=Hd (by
     have ar:(i.setCell (mb,8) (nC (i,0) N N)).heap.size=i.heap.size:=by simp[World.setCell]
     refine⟨(dq.BC b5 bq 8 _).later (DE _ _),(b5.AW 8 _).alloc _,(fj.set (X:=(·=mb)) (p:=⟨mb,8,nK⟩) (.inr rfl) _).alloc _,⟨mV,.inr ⟨i.heap.size,N,Array.replicate N (nC nK 0 0),rfl,dq.CM.size,?_,AF _,mW,mV,mV⟩⟩⟩;have h:=Ah.new (i.setCell (mb,8) (nC (i,0) N N)) 288 (Array.replicate N (nC nK 0 0));rw[ar]at h;exact h)
   generalize (i.setCell (mb,8) (nC (i,0) N N)).alloc (nO (Array.replicate N (nC nK 0 0)) 288)=W1 at *;generalize i.heap.size=cb at *;obtain⟨cy,cj,cm,d4⟩:=dk.out;have cy:=Hd cy;have cj:=Hd cj;have cm:=Hd cm;have d4:=Hd d4;clear dk f8 x8 x0 l2 gx z0 z1 z2 z3;go_loopg [10] (N-(g.nt+1)) (fun m ss wr=>∃(s:Nat) (CV:List nU),Hid (m+s=N)/\g.nt<s/\s<=N/\ss=nE nM s/\Hid (Cq P w wr F g E C rv a9 j N g.R.length RV TV a7 T)/\Hid (Ah wr mb 253 (EH (.agg #[nC AT g.nt cT,nC AN g.nn cN,nC AR g.R.length cR,g.s]) lv rv a9 (nC (j,0) N N) (nC (cb,0) N N) bv av ev fv))/\Hid (Aj (·=mb) w wr)/\Hid (wr.ownsRow w 288 1 (nC (cb,0) N N) N CV)/\Hid (∀a0 x,CV[a0]?=nJ x->DZ (fun b=>cb<b/\b<wr.heap.size) wr (g.nt+1) x (if a0<s then CC.getD a0 [] else[])))
   case atStart=>
     refine⟨g.nt+1,_,Hd mR,Nat.lt_succ_self _,h4,mY,cy,cj,cm,d4,Hd (fun a0 x o=>?_)⟩;obtain⟨h1,rfl⟩:=sG.1 o;rw[List.getElem_replicate];split
     ·rw[VV di.out mR]
      exact DZ.I2 _ _ _
     ·exact DZ.I2 _ _ _
   case round=>
     obtain⟨s,CV,g3,ca,f0,rfl,bd,ah,dh,bu,e5⟩:=hrel;rename nS=>w8
     have fg:=Hd bd.CM.below;have z0:nQ w8 (mb,0)=nJ (nC AT g.nt cT):=Ah.cell ah 0;have z1:nQ w8 (mb,1)=nJ (nC AN g.nn cN):=Ah.cell ah 1;have z2:nQ w8 (mb,2)=nJ (nC AR g.R.length cR):=Ah.cell ah 2;have z3:nQ w8 (mb,3)=nJ (nE nM g.s):=Ah.cell ah 3;have dz:=Hd (HT w8 fg);have ds:=HN.out;by_cases b8:s<N
     ·have hp:(s:Int)<=(g.top:Int):=by omega
      have iz:(s:Int)<(N:Int):=by omega
      clear ds;go_upto_region 22 with(
                   go_at_call 22;refine dz.mono ?_;rintro e w4 ⟨rfl,bi⟩
                   have a6:=Hd bi;clear bi)
      have cx:=Hd (bd.later a6);have bc:=Hd (ah.below a6 ah.lt);have e1:=Hd (AV bu a6);have fk:=Hd (dh.next (Aj.AJ a6));have z8:nQ w4 (mb,8)=nJ (nC (cb,0) N N):=Ah.cell bc 8;have j4:=bc.lt;have dj:Hid (() 191 #[(mb,0),nE nM s] w4.drew fun e w'=>∃A c,e=nP (nC A (CC.getD s []).length c)/\DZ (fun b=>w4.heap.size<=b/\b<w'.heap.size) w' (g.nt+1) (nC A (CC.getD s []).length c) (CC.getD s [])/\Below w4 w4 w'):=Hd (by
       have hd:Below w4 w4 w4.drew:=(Below.refl _ w4).drew;have hb:=bc.drew;refine(fq w4.drew #[] s (cx.later hd) (fun b4 hj=>?_) (Ah.cell hb 5) (Ah.cell hb 6) (Ah.cell hb 7) ca b8).mono ?_
       ·rw[hb.cell]
        match b4,hj with
        | 0,_=>rfl
        | 1,_=>rfl
        | 2,_=>rfl
        | 3,_=>rfl
       ·rintro e w' ⟨A,c,rfl,h1,h2⟩
        exact⟨A,c,rfl,h1,hd.trans h2⟩)
      obtain⟨cs,b0⟩:∃cs,CC.getD s []=cs:=⟨_,rfl⟩
      rw[b0]at dj;have fr:=Hd b0;clear b0 z0 z1 z2 z3;have gp:=(BR e1 cb rfl).1;have fm:=Hd gp;generalize d8:cs.length=cl at *;have i2:=Hd d8;clear d8;go_region_law (first|(
                   go_simp;go_at_call 191;refine dj.mono ?_;rintro e w5 ⟨A5,c5,rfl,h5,c8⟩;have H5:=Hd h5;have bm:=Hd c8;have bn:=Hd (bc.below c8 bc.lt);have aq:=Hd (AV e1 c8);have j9:nQ w5 (mb,8)=nJ (nC (cb,0) N N):=Ah.cell bn 8;have j7:=bn.lt;have ic:=GU aq s;have gi:=Bb aq s mR;have ei:CV[s]?=nJ (CV[s]'(by have:=aq.1;omega)):=eG _;rw[ei]at gi;have j1:=(BR aq cb rfl).1;clear h5 c8 ei))
      all_goals go_wp2_with fail
      all_goals go_roundg (N-(s+1))
      all_goals first
       | (have:=g3.out;omega)
       | (
         obtain⟨ib,eh⟩:∃bw,Ah w5 cb 288 bw:=by
           rcases aq.2 with⟨hh,_⟩|⟨g',cap,bw,hh,hB,gu,_⟩
           · cases hh
           · cases hh;exact⟨bw,gu⟩
         have iq:=(BR aq cb rfl).2;have b0:Aj (·=cb) w5 (w5.setCell ⟨cb,s,nK⟩ (nC A5 cl c5)):=Aj.set (X:=(·=cb)) (Aj.refl _ w5) (p:=⟨cb,s,nK⟩) (.inr rfl) _;have ar:(w5.setCell ⟨cb,s,nK⟩ (nC A5 cl c5)).heap.size=w5.heap.size:=by simp[World.setCell]
         have d8:cb<w4.heap.size:=fm.out;have ij:=bm.size;have e8:=a6.size;have il:=cx.CM.base;refine⟨s+1,CV.set s (nC A5 cl c5),Hd mR,mR,mR,mY,Hd ((cx.later bm).Vf eh mR mT mT mT mT mT mT mT mT s _),Hd (bn.BC (p:=⟨cb,s,nK⟩) (Ah.Bh bn eh mT) _),Hd ((fk.next (Aj.AJ bm)).trans b0 (fun a0 hi e=>by have e2:a0=cb:=e;omega)),Hd (Gl aq s mR _),Hd (fun a0 x o=>?_)⟩
         by_cases el:a0=s
         · subst el
           rw[tG (by have:=aq.1;omega)]at o;cases o
           rw[if_pos (Nat.lt_succ_self _),fr.out];refine(H5.Ay b0 (fun b hb e=>by have e2:b=cb:=e;omega)).mono fun b hb=>?_
           rw[ar];omega
         · rw[uG (fun e=>el e.symm)]at o
           have h8:=e5 a0 x o;have h9:=(h8.Ay (Aj.AJ (X:=fun _=>False) (a6.trans (bm.mono e8))) (fun _ _=>id)).Ay b0 (fun b hb e=>by have e2:b=cb:=e;omega);have e3:(if a0<s+1 then CC.getD a0 [] else[])=(if a0<s then CC.getD a0 [] else[]):=by
             by_cases h:a0<s
             ·rw[if_pos h,if_pos mR]
             ·rw[if_neg h,if_neg mR]
           rw[e3];refine h9.mono fun b hb=>?_
           rw[ar];omega)
     ·obtain rfl:s=N:=by omega
      have hp:¬((s:Int)<=(g.top:Int)):=by omega
      clear ds;go_wp2_with (
               go_at_call 22;refine dz.mono ?_;rintro e w4 ⟨rfl,bi⟩
               have a6:=Hd bi;clear bi)
      go_end0
      have hM:=bd.later a6;have e8:=a6.size;obtain⟨d1,d2,d3⟩:=hM.done a5.1 a5.2 et f3;refine⟨rfl,hM.CM.below,hM.CM.size,dh.next (Aj.AJ a6),rv,a9,_,_,ah.below a6 ah.lt,d1,d2,?_,?_⟩
      ·rw[<-HN.out]at d3 ⊢
       exact d3
      ·rw[<-HN.out]
       have hV:=AV bu a6;have ip:=(BR bu cb rfl).2;have f1:∀b,w.heap.size<=b->b<w4.heap.size->Ho P w w4 b:=fun b a1 a2=>⟨.inr a1,a2⟩
       refine Bo.Mc hV mR f1 fun a0 x o=>?_
       have hi:a0<s:=by have h1:=(sG.1 o).1;have h2:=bu.1;omega
       have h8:=e5 a0 x o;rw[if_pos hi]at h8;exact(h8.Ay (Aj.AJ (X:=fun _=>False) a6) (fun _ _=>id)).mono fun b hb=>f1 b mR mR
