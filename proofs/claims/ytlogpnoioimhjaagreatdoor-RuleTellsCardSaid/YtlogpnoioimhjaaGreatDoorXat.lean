/- A number in a row of numbers. -/
import Derived.Test.YtlogpnoioimhjaaGreatDoorXas
import Derived.Test.YtlogpnoioimhjaaGreatDoorXap
set_option linter.all false
set_option maxRecDepth 100000
set_option maxHeartbeats 16000000
namespace Go.Proofs.YtlogpnoioimhjaaGreatDoor
open Go.RowKit
variable{w:World}{v:Value}{C l:List Nat}{j:List (List AU)}{g:Gz}{T:List (List (Nat×Bool))}
def Xg(h:BD w v l)(hl:l.length<=1000000)(s:Nat) :
  () 110 #[v,s] w fun e w'=>∃r:Int,e=.returned r/\(0<=r<->s∈l)/\w'=w:=by
 obtain⟨⟨Ad,c,rfl,U⟩,-,-⟩:=h;obtain⟨n,t⟩:∃n,l.length=n:=⟨_,rfl⟩
 have HC:=Hd U;have P:=Hd t;rw[t]at hl ⊢;clear U t;go_enter Tryz.func110,Tryz.ntmps110
 go_wp2_with fail
 go_loopw [8] (fun ii wr=>∃k:Nat,k<=n/\ii=.int .i64 k/\Hid (wr=w/\∀j,j<k->l[j]?≠some s)) (fun ii _=>n-(intOf ii).toNat)
 case atStart=>exact⟨0,AX _,rfl,Hd ⟨rfl,fun j o=>by omega⟩⟩
 case round=>
  obtain⟨k,hk,rfl,I⟩:=hrel;obtain⟨hw,T⟩:=I.out;have a2:=hw.symm;subst a2;clear hw;have J:=Hd T;clear T I;by_cases a0:k<n
  ·obtain⟨x,C⟩:∃x,l[k]?=some x:=⟨_,eG (by rw[P.out];exact a0)⟩
   obtain⟨b,off,rfl,a3,d0⟩:=HC k x C;unfold AV at d0;have R:=Hd C;clear C;by_cases i:x=s
   ·have a1:((s:Int)==(x:Int))=true:=by rw[i];simp
    have p:=Hd i;clear i;go_wp2_with fail
    go_ret;exact⟨_,rfl,⟨fun _=>mG (by rw[<-p.out];exact R),fun _=>by omega⟩,rfl⟩
   ·have a1:((s:Int)==(x:Int))=false:=by rw[bN];omega
    have p:=Hd i;clear i;go_wp2_with fail
    go_roundw
    case rel=>exact⟨k+1,by omega,by go_num,Hd ⟨trivial,fun j o=>by
     by_cases e:j=k
     ·rw[e,R.out]
      intro h;exact p (Option.some.inj h)
     ·exact J j (by omega)⟩⟩
    case measure=>simp[intOf];omega
  ·obtain rfl:k=n:=by omega
   go_wp2_with fail
   go_ret;refine⟨_,rfl,⟨fun h=>by omega,fun h=>?_⟩,rfl⟩;obtain⟨j,o,e⟩:=List.mem_iff_getElem.1 h;exact absurd (by rw[eG o,e]) (J j (by rw[<-P.out];exact o))
def Ov(h:BD w v l)(t:l.length<=1000000)(s:Nat) :
  () 83 #[v,s] w fun e w'=>e=.returned (.bool (decide (s∈l)))/\w'=w:=by
 have j:=Hd (Xg h t s);obtain⟨⟨C,c,rfl,p⟩,-,-⟩:=h;clear p;go_enter Tryz.func83,Tryz.ntmps83
 go_wp2_with (go_at_call 110;refine j.mono ?_;rintro e w' ⟨r,rfl,i,rfl⟩;have o:=Hd i;clear i)
 go_ret;refine⟨?_,rfl⟩;exact congrArg (fun b=>Ending.returned (.bool b)) (decide_eq_decide.2 o)
def IJ(z:AH×(Nat×Bool)):List Value:=[z.1.v,.bool z.2.2]
structure GC(w1 wr:World)(m:Nat)(sv:Value)(Z:List (AH×(Nat×Bool))):Prop where
 below:Below w1 w1 wr
 row:wr.ownsRow w1 252 2 sv Z.length (Z.flatMap IJ)
 Of:∀z∈Z,AP wr z.1 z.2.1/\z.1.n=m/\w1.heap.size<=z.1.h/\w1.heap.size<=z.1.wb
variable{wr:World}{m:Nat}{Z:List (AH×(Nat×Bool))}
def GC.start(i:World)(m:Nat):GC i i m (.slice none 0 0) []:=⟨Below.refl _ _,⟨rfl,.inl ⟨rfl,rfl⟩⟩,fun z j=>by cases j⟩
def GC.later{l w2:World}{j:Value}(h:GC l wr m j Z)(i:Below wr wr w2):GC l w2 m j Z:=
 ⟨h.below.trans (i.mono h.below.size),AS h.row i,fun z o=>by obtain⟨a,b⟩:=h.Of z o;exact⟨a.later i,b⟩⟩
def GC.more{i w2 o:World}{R:Value}(h:GC i w2 m R Z){t:AH}{S:Nat}{e:Bool}(I:AP w2 t S)(C:t.n=m)(p:i.heap.size<=t.h/\i.heap.size<=t.wb){A:Option Addr}{c:Nat}
  (P:o.ownsRow i 252 2 (.slice A (Z.length+1) c) (Z.length+1) (Z.flatMap IJ++IJ (t,(S,e)))) (l:AI i [252] w2 o):GC i o m (.slice A (Z.length+1) c) (Z++[(t,(S,e))]):=by
 refine⟨h.below.trans (l.below h.below.size),?_,fun z J=>?_⟩
 ·rw[List.flatMap_append,B8]
  simpa using P
 ·rcases mA.1 J with j|j
  ·obtain⟨a,b⟩:=h.Of z j
   exact⟨a.keeps l (by decide) (by decide),b⟩
  ·rw[mS.1 j]
   exact⟨I.keeps l (by decide) (by decide),C,p⟩
def GC.Yz{R:World}{lo:Nat}{P:Value}(h:GC R wr m P Z)(a2:lo<=R.heap.size)(J:Z.length<=1000000):E9 (Ko lo wr.heap.size wr) wr m P (Z.map (·.2)):=by
 unfold E9;rw[lM];rcases Bi h.row with⟨I,l⟩|⟨b,c,rfl,I,l,U,_,a1,hb⟩
 ·exact⟨none,0,by rw[I,l],by omega,J,fun k o=>by omega⟩
 ·refine⟨_,c,rfl,U,J,fun k o=>⟨b,0,rfl,⟨by omega,l,_,_,hb,.inl rfl⟩,l,fun j hj=>?_⟩⟩
  obtain⟨z,p⟩:∃z,Z[k]?=some z:=⟨_,eG o⟩
  obtain⟨_,a0⟩:=sG.1 p;have hg:(Z.map (·.2)).getD k (0,false)=z.2:=by rw[dG,pG,p];rfl
  have t:=CJ IJ 2 (fun _=>rfl) Z k 0 o (by omega);have C:=CJ IJ 2 (fun _=>rfl) Z k 1 o (by omega);rw[a0]at t C;obtain⟨i,T,a3,a4⟩:=h.Of z (mG p);show ∃x,wr.cell? (b,0+k*2+j)=some x/\(if j=0 then ∃h:AH,x=h.v/\h.n=m/\IA (Ko lo wr.heap.size wr) wr h ((Z.map (·.2)).getD k (0,false)).1 else x=.bool ((Z.map (·.2)).getD k (0,false)).2)
  rw[hg,Nat.zero_add]
  match j,hj with
  | 0,_=>exact⟨z.1.v,by rw[Bh h.row _ (by omega),t];rfl,z.1,rfl,T,i,⟨by omega,i.head.lt,_,_,i.head,.inr (.inl rfl)⟩,⟨by omega,i.words.lt,_,_,i.words,.inr (.inr rfl)⟩⟩
  | 1,_=>exact⟨.bool z.2.2,by rw[Bh h.row _ (by omega),C];rfl,rfl⟩
theorem Ur{E n:Nat}{C:List Nat}:∀(l:List Nat) (S:Nat),(∀i,C.getD i 0<2 ^ n)->S<2 ^ n->(Dp E C l S).1<2 ^ n
 | [],S,_,h=>h
 | x::l,S,o,h=>by
  unfold Dp;have j:=Nat.or_lt_two_pow h (o x);split
  ·exact Ur l _ o j
  ·exact j
theorem Bx.V5{t:World}{F:Fs}{E:Nat}(h:Bx t wr F g E C)(l:List Nat):(Dp E C l 0).1<2 ^ (g.nt+1):=by
 refine Ur l 0 (fun i=>?_) (Nat.two_pow_pos _);cases j:F.P[i]? with
 | none=>have:=List.getElem?_eq_none_iff.1 j;rw[dG,nG (by rw[<-h.AK.len];exact this)];exact Nat.two_pow_pos _
 | some p=>have o:=(h.AK.at_ i p j).fit;rw[h.AK.room p (mG j)]at o;exact o
theorem MV{g:Gz}{T:List (List (Nat×Bool))}:∀(N:Nat) (i:List (List AU)),g.Dk T N=some i->i.length=N/\∀k,k<=N->g.Dk T k=some (i.take k)
 | 0,i,h=>by
  unfold Gz.Dk at h;cases h
  exact⟨rfl,fun k t=>by
       obtain rfl:k=0:=by omega
       rfl⟩
 | N+1,i,h=>by
  have h0:=h;unfold Gz.Dk at h;cases j:g.Dk T N with
  | none=>rw[j]at h;cases h
  | some l=>
   rw[j]at h;obtain⟨o,p⟩:=MV N l j;obtain⟨x,rfl⟩:∃x,i=l++[x]:=by
    simp only at h;split at h
    ·cases h;exact⟨_,rfl⟩
    ·split at h
     ·cases h
     ·cases h;exact⟨_,rfl⟩
   refine⟨by simp[o],fun k t=>?_⟩;by_cases C:k=N+1
   ·subst C
    rw[De (by simp[o])];exact h0
   ·rw[List.take_append_of_le_length (by omega)]
    exact p k (by omega)
theorem Y5{N s:Nat}(h:g.Dk T N=some j)(C:g.nt<s)(I:s<N):g.JC T s=some (j.getD s []):=by
 obtain⟨J,p⟩:=MV N j h;have i:=p (s+1) (by omega);unfold Gz.Dk at i;rw[p s (by omega)]at i;simp only at i;rw[if_neg (by omega)]at i;cases t:g.JC T s with
 | none=>rw[t]at i;cases i
 | some r=>rw[t]at i;have o:=congrArg (fun l=>l[s]?) (Option.some.inj i);rw[List.getElem?_append_right (by simp;omega),List.getElem?_take_of_lt (by omega),List.length_take]at o;rw[show s-min s j.length=0 by omega]at o;rw[dG,<-o];rfl
def fY{N s:Nat}(h:g.Dk T N=some j)(t:s<=g.nt):j.getD s []=[]:=by
 obtain⟨I,p⟩:=MV N j h;rw[dG];by_cases C:s<N
 ·have i:=p (s+1) (by omega)
  unfold Gz.Dk at i;rw[p s (by omega)]at i;simp only at i;rw[if_pos t]at i;have o:=congrArg (fun l=>l[s]?) (Option.some.inj i);rw[List.getElem?_append_right (by simp;omega),List.getElem?_take_of_lt (by omega),List.length_take]at o;rw[show s-min s j.length=0 by omega]at o;rw[<-o];rfl
 ·rw[nG (by omega)]
  rfl
def DW.JA(A:Nat->Prop)(w:World)(m:Nat):DW A w m (.slice none 0 0) []:=⟨none,0,rfl,AF _,by simp,fun k i=>by simp at i⟩
def Px(i w:World)(mb:Nat)(v R I C J P:Value)(g:Gz)(T:List (List (Nat×Bool)))(t:List (List AU))(e:Ending)(w':World):Prop:=
 e=.returned (.tuple #[])/\Below i i w'/\w.heap.size<=w'.heap.size/\Aj (·=mb) w w'/\∃l o p j,Ah w' mb 209 (EB v R l o p j I C J P) /\
  Du (Hm i w w') w' l (g.R.length+1) g.right/\FQ (Hm i w w') w' (g.nt+1) o (g.R.length+1) T/\Du (Hm i w w') w' p (g.top+1) g.CD/\Jq (Hm i w w') w' (g.nt+1) j (g.top+1) t
def ZL{P:World}{mb:Nat}{lv fe ad bv av ev fv:Value}{f E:Nat}{CC:List (List AU)}(b3:GN P v g)(bh:Below P P w)(eo:P.heap.size<=mb)(az:Ah w mb 209 (EB v lv (.slice none 0 0) (.slice none 0 0) fe ad bv av ev fv))(hf:KF g f=some (E,C))(eb:T=(List.range (g.R.length+1)).map (g.DF E C))(eg:g.Dk T (g.top+1)=some CC) :
  () 104 #[(mb,0)] w (Px P w mb v lv bv av ev fv g T CC):=by
 have bj:=b3.fit;have gz:=bj.nn;have eu:=bj.nt;have et:=bj.nr;obtain⟨N,hN⟩:∃N,N=g.top+1:=⟨_,rfl⟩
 have ik:N<=1000:=by unfold Gz.top at hN;omega
 have f3:g.top<=1000:=by omega
 have ir:IntKind.i64.wrap ((g.top:Int)+1)=(g.top:Int)+1:=by rw[IntKind.wrap_i64];omega
 have gw:=fun y=>Js (P:=Tryz.prog) (t:=78) (e:=43) (z:=.slice none 0 0) (bytes:=24) Tryz.underlying78 (by kernel_rfl) rfl (l:=((g.top:Nat):Int)+1) (n:=N) (by omega) (by omega) (by omega) y
 have gx:=fun y=>Js (P:=Tryz.prog) (t:=205) (e:=253) (z:=.slice none 0 0) (bytes:=24) Tryz.underlying205 (by kernel_rfl) rfl (l:=((g.top:Nat):Int)+1) (n:=N) (by omega) (by omega) (by omega) y
 have HT:=Hd (fun y (t:Below P P y)=>LB (b3.later t));have fw:Hid (∀y,Below P P y->() 153 #[v] y fun e w'=>∃F:Fs,e=.returned (F.q,0)/\Bx P w' F g E C/\Below y y w'):=Hd (fun y t=>by refine(XR (b3.later t) hf).mono ?_;rintro e w' ⟨F,rfl,hF⟩;exact⟨F,rfl,hF.BA t,hF.below⟩)
 have g6:=Hd (fun y (t:Below P P y) (k:Nat) (hk:k<=g.R.length)=>P8 b3 t hk);have fp:=Hd (fun y (t:Below P P y)=>b3.later t);have cp:=Hd bj;have e0:=Hd eb;have di:=Hd eg;obtain⟨AT,cT,AN,cN,AR,cR,rfl,hc,gm⟩:=b3.open_;have fh:=Hd az;have bb:=Hd bh;have HN:=Hd hN;have bq:=Hd eo;have y0:w.cell? (mb,0)=some (.slice AT g.nt cT):=Ah.cell az 0;have y1:w.cell? (mb,1)=some (.slice AN g.nn cN):=Ah.cell az 1;have y2:w.cell? (mb,2)=some (.slice AR g.R.length cR):=Ah.cell az 2;have y3:w.cell? (mb,3)=some (.int .i64 g.s):=Ah.cell az 3
 have l0:=az.lt;have fx:=Hd l0;clear b3 bh az hf eg hc gm bj gz hN eo eb;go_enter Tryz.func104,Tryz.ntmps104
 go_wp2_with (first
  | (
    go_at_call 153;refine(fw _ bb).mono ?_;rintro e w1 ⟨F,rfl,hF,c0⟩
    have HF:=Hd hF;have dd:=Hd c0;have b1:=fh.below c0 fx;have de:=Hd b1;have z0:w1.cell? (mb,0)=some (.slice AT g.nt cT):=Ah.cell b1 0;have z1:w1.cell? (mb,1)=some (.slice AN g.nn cN):=Ah.cell b1 1;have z2:w1.cell? (mb,2)=some (.slice AR g.R.length cR):=Ah.cell b1 2;have z3:w1.cell? (mb,3)=some (.int .i64 g.s):=Ah.cell b1 3;have l1:=Ah.lt b1;have fi:=Hd (bb.trans (c0.mono bb.size));clear b1 hF c0)
  | (
    go_at_call 103;refine(HT _ fi).mono ?_;rintro e i ⟨rfl,af⟩
    have au:=Hd (dd.trans (af.mono dd.size));have ft:=Hd (HF.later af);have b2:=de.below af (Ah.lt de);have df:=Hd b2;have f7:=Ah.frozen b2 7;have x7:i.cell? (mb,7)=some fe:=Ah.cell b2 7;have x2:i.cell? (mb,2)=some (.slice AR g.R.length cR):=Ah.cell b2 2;have l2:=Ah.lt b2;clear b2 af))
 have cw:Hid (Cq P w ((i.setCell (mb,7) (.slice (i,0) N N)).alloc (.cells (Array.replicate N (.slice none 0 0)) 43)) F g E C (.slice none 0 0) (.slice none 0 0) i.heap.size N 0 [] [] (List.replicate N (.slice none 0 0,[])) []/\Ah ((i.setCell (mb,7) (.slice (i,0) N N)).alloc (.cells (Array.replicate N (.slice none 0 0)) 43)) mb 209 (EB (.agg #[.slice AT g.nt cT,.slice AN g.nn cN,.slice AR g.R.length cR,g.s]) lv (.slice none 0 0) (.slice none 0 0) (.slice (i,0) N N) ad bv av ev fv)/\Aj (·=mb) w ((i.setCell (mb,7) (.slice (i,0) N N)).alloc (.cells (Array.replicate N (.slice none 0 0)) 43))):=Hd (by
  have hs:=au.size;have ba:=bb.size;have ar:(i.setCell (mb,7) (.slice (i,0) N N)).heap.size=i.heap.size:=by simp[World.setCell]
  have hc:Aj (·=mb) i (i.setCell (mb,7) (.slice (i,0) N N)):=Aj.set (X:=(·=mb)) (Aj.refl _ i) (p:=⟨mb,7,none⟩) (.inr rfl) _;have im:=(bb.trans (au.mono ba))
  have gj:=ft.R7 hc (fun b hb=>by subst hb;exact⟨bq,_,_,df,by decide,by decide,by decide,by decide⟩);have e9:=gj.later (DJ (i.setCell (mb,7) (.slice (i,0) N N)) (.cells (Array.replicate N (.slice none 0 0)) 43));have ej:=ES.fresh (i.setCell (mb,7) (.slice (i,0) N N)) (B:=w.heap.size) (n:=N) (by rw[ar];exact hs) (by omega);rw[ar]at ej;refine⟨⟨⟨e9.below,by simp[ar];omega,ba,e9,(fun a0 x o=>by simp at o),(fun a0 x o=>by simp at o)⟩,⟨rfl,.inl ⟨rfl,rfl⟩⟩,by rw[<-HN.out];exact ej,?_,⟨rfl,.inl ⟨rfl,rfl⟩⟩,by simp[Value.ownBlock]⟩,(df.Be 7 (.slice (i,0) N N)).alloc _,((Aj.AJ au).next hc).alloc _⟩
  rw[List.map_replicate,<-HN.out];apply List.ext_getElem?;intro a0;rw[pG];by_cases hi:a0<N
  ·rw[List.getElem?_range hi,List.getElem?_replicate,if_pos hi];rfl
  ·rw[nG (by simp;omega),nG (by simp;omega)];rfl)
 generalize (i.setCell (mb,7) (.slice (i,0) N N)).alloc (.cells (Array.replicate N (.slice none 0 0)) 43)=W0 at *;generalize i.heap.size=j at *;clear f7 x7 x2 l2 y0 y1 y2 y3 z0 z1 z2 z3 l1 gw;go_loopg [33] (g.R.length+1) (fun n ii wr=>∃(k:Nat) (rv a9:Value) (RV TV:List Value) (a7:List (Value×List Nat)),Hid (n+k=g.R.length+1)/\k<=g.R.length+1/\ii=.int .i64 k/\Hid (RV.length=k/\TV.length=k)/\Hid (Cq P w wr F g E C rv a9 j N (min k g.R.length) RV TV a7 ((List.range k).map (g.DF E C)))/\Hid (Ah wr mb 209 (EB (.agg #[.slice AT g.nt cT,.slice AN g.nn cN,.slice AR g.R.length cR,g.s]) lv rv a9 (.slice (j,0) N N) ad bv av ev fv))/\Hid (Aj (·=mb) w wr))
 case atStart=>exact⟨0,_,_,[],[],_,Hd rfl,by omega,rfl,Hd ⟨rfl,rfl⟩,Hd (by simpa using cw.1),Hd cw.2.1,Hd cw.2.2⟩
 case round=>
  obtain⟨k,rv,a9,RV,TV,a7,dt,hk,rfl,a5,HM,ab,cn⟩:=hrel;rename World=>w9
  have ai:=Hd HM.CS.below;have z0:w9.cell? (mb,0)=some (.slice AT g.nt cT):=Ah.cell ab 0;have z1:w9.cell? (mb,1)=some (.slice AN g.nn cN):=Ah.cell ab 1;have z2:w9.cell? (mb,2)=some (.slice AR g.R.length cR):=Ah.cell ab 2;have z3:w9.cell? (mb,3)=some (.int .i64 g.s):=Ah.cell ab 3;by_cases iy:k<g.R.length+1
  ·have bt:=Hd (g6 w9 ai k (by omega))
   have gv:(k:Int)<(g.R.length:Int)+1:=by omega
   obtain⟨Ar,cr,ez⟩:=CG HM.Hr;obtain⟨At,ct,f4⟩:=CG HM.Hg;rw[a5.1]at ez;rw[a5.2]at f4;subst ez;subst f4;obtain⟨left,b7⟩:∃a3,(g.Bo k).1=a3:=⟨_,rfl⟩
   unfold MH at bt;rw[b7]at bt;have fy:=Hd b7;clear b7;go_upto_region 6 with(
                  go_at_call 59;refine bt.mono ?_;rintro e i ⟨xv,rfl,hn,hb,h0,h1⟩
                  obtain⟨⟨p,l,hw,-⟩,-,-⟩:=id hn;subst hw;have ax:=Hd hn;have gh:=Hd h0;have e4:=Hd h1;have au:=Hd hb;clear hn h0 h1 hb)
   have hg:i.heap.size<=(i.alloc (.cells #[left,.slice p (g.right k).length l] 119)).heap.size:=by simp
   have b6:Hid (Ah (i.alloc (.cells #[left,.slice p (g.right k).length l] 119)) i.heap.size 119 #[left,.slice p (g.right k).length l]):=Hd (Ah.new i 119 _);have ak:Hid (Below w9 w9 (i.alloc (.cells #[left,.slice p (g.right k).length l] 119))):=Hd (au.alloc au.size _);have du:Hid (BD (i.alloc (.cells #[left,.slice p (g.right k).length l] 119)) (.slice p (g.right k).length l) (g.right k)):=Hd (ax.later (AG i _));have e6:Hid (k=g.R.length->∃b,(.slice p (g.right k).length l:Value)=.slice (some ⟨b,0,none⟩) 1 1/\w9.heap.size<=b/\∃cs,Ah (i.alloc (.cells #[left,.slice p (g.right k).length l] 119)) b 3 cs):=Hd (fun e=>by obtain⟨b,h1,h2,cs,h3⟩:=e4 e;exact⟨b,h1,h2,cs,h3.alloc _⟩)
   generalize i.alloc (.cells #[left,.slice p (g.right k).length l] 119)=W at *;generalize i.heap.size=rb at *;have an:=Hd (HM.later ak);have aw:=Hd (ab.below ak ab.lt);have dm:=Hd (cn.next (Aj.AJ ak));clear hg z0 z1 z2 z3 au ax e4;have r0:W.cell? (rb,0)=some (.int .i64 left):=Ah.cell b6 0;have r1:W.cell? (rb,1)=some (.slice p (g.right k).length l):=Ah.cell b6 1;have rl:=b6.lt;have z5:W.cell? (mb,5)=some (.slice Ar k cr):=Ah.cell aw 5;have ml:=aw.lt
   go_cut [] (fun wx=>∃(A6:Option Addr) (c6:Nat),Hid (Cq P w wx F g E C (.slice A6 (k+1) c6) (.slice At k ct) j N (min k g.R.length) (RV++[.slice p (g.right k).length l]) TV a7 ((List.range k).map (g.DF E C)))/\Hid (Ah wx mb 209 (EB (.agg #[.slice AT g.nt cT,.slice AN g.nn cN,.slice AR g.R.length cR,g.s]) lv (.slice A6 (k+1) c6) (.slice At k ct) (.slice (j,0) N N) ad bv av ev fv))/\Hid (Aj (·=mb) w wx)/\Hid (Ah wx rb 119 #[left,.slice p (g.right k).length l]))
   case first=>
     have bp:Hid (∀(Y R:World) (A6:Option Addr) (c6:Nat),Below W W Y->R.ownsRow w 43 1 (.slice A6 (k+1) c6) (k+1) (RV++[.slice p (g.right k).length l])->AI w [43] Y R->(Y.grownBy R (Value.slice Ar k cr).ownBlock/\((Value.slice A6 (k+1) c6).ownBlock=(Value.slice Ar k cr).ownBlock\/(Value.slice A6 (k+1) c6).ownBlock=some Y.heap.size)) ->
       Hid (Cq P w (R.setCell (mb,5) (.slice A6 (k+1) c6)) F g E C (.slice A6 (k+1) c6) (.slice At k ct) j N (min k g.R.length) (RV++[.slice p (g.right k).length l]) TV a7 ((List.range k).map (g.DF E C)))/\Hid (Ah (R.setCell (mb,5) (.slice A6 (k+1) c6)) mb 209 (EB (.agg #[.slice AT g.nt cT,.slice AN g.nn cN,.slice AR g.R.length cR,g.s]) lv (.slice A6 (k+1) c6) (.slice At k ct) (.slice (j,0) N N) ad bv av ev fv))/\Hid (Aj (·=mb) w (R.setCell (mb,5) (.slice A6 (k+1) c6)))/\Hid (Ah (R.setCell (mb,5) (.slice A6 (k+1) c6)) rb 119 #[left,.slice p (g.right k).length l])):=Hd (fun Y R A6 c6 t q1 J q3=>by
      have hl:=a5.1;have hY:=an.later t;have d7:=J.Ap (aw.below t aw.lt) (.inr (by decide));have ew:=J.Ap (b6.below t b6.lt) (.inr (by decide));have hM:=hY.WD (x:=.slice p (g.right k).length l) (A:=A6) (c:=c6) (by omega) (by rw[hl];exact q1) (by rw[hl];exact q3) (by rw[hl];exact du.later t) (by rw[hl];exact gh) (by rw[hl];intro e;obtain⟨b,h1,h2,cs,h3⟩:=e6 e;exact⟨b,h1,AW HM.CS.size h2,cs,h3.below t h3.lt⟩)
      rw[hl]at hM;have gy:rb≠mb:=Ah.Bf ew d7 (by decide);refine⟨Hd (hM.BA d7 bq 5 _),Hd (d7.Be 5 _),Hd ((dm.next (Aj.AJ t)).trans (Y:=fun b=>b=mb\/w.heap.size<=b) ((J.AE.mono fun b hb=>.inr hb).next (Aj.set (X:=fun b=>b=mb\/w.heap.size<=b) (Aj.refl _ R) (p:=⟨mb,5,none⟩) (.inr (.inl rfl)) _)) (fun a0 hi o=>o.resolve_right (by omega))),Hd (ew.BA (p:=⟨mb,5,none⟩) gy _)⟩)
     have br:Hid (W.ownsRow w 43 1 (.slice Ar k cr) k RV):=Hd (by have h:=an.Hr;rw[a5.1]at h;exact h);go_region_law (
               refine EG MT (.tmp 49) (.tmp 52) ?_ ?_ (base:=w.heap.size) (n:=k) (m:=1) (N:=k+1) (v:=.slice Ar k cr) (src:=.slice (W,0) 1 1) (xs:=RV) (news:=[.slice p (g.right k).length l]) ?_ ?_ ?_ ?_ ?_ ?_ ?_ ?_ ?_
               ·rfl
               ·rfl
               ·rfl
               ·rfl
               ·first|exact(AS br ((Below.refl _ W).drew)).alloc _|exact AS (br.alloc _) ((Below.refl _ _).drew)
               ·first|exact AY.Ap (c:=1) (cs:=[.slice p (g.right k).length l]) (Ah.new W.drew 43 _) rfl (by simp[Value.oneCell'])|exact AY.Ap (c:=1) (cs:=[.slice p (g.right k).length l]) (Ah.drew (Ah.new W 43 _)) rfl (by simp[Value.oneCell'])
               ·rfl
               ·unfold maxLen;omega
               ·omega
               ·have:=an.CS.size;simp;omega
               intro A6 c6 R q1 J q3;have dv:=Hd q1;have dw:=Hd J;have dx:=Hd q3;have ch:Hid (Ah R mb 209 (EB (.agg #[.slice AT g.nt cT,.slice AN g.nn cN,.slice AR g.R.length cR,g.s]) lv (.slice Ar k cr) (.slice At k ct) (.slice (j,0) N N) ad bv av ev fv)):=Hd (by first|exact J.Ap (aw.drew.alloc _) (.inr (by decide))|exact J.Ap (Ah.drew (aw.alloc _)) (.inr (by decide)));have ia:R.cell? (mb,5)=some (.slice Ar k cr):=Ah.cell ch 5;have ie:=Ah.frozen ch 5;have j2:=ch.lt;clear q1 J q3)
     all_goals go_wp2_with fail
     all_goals go_meet
     all_goals first
      | exact⟨A6,c6,bp _ _ _ _ (((Below.refl _ W).drew).alloc (AF _) _) dv dw dx⟩
      | exact⟨A6,c6,bp _ _ _ _ (((Below.refl _ W).alloc (AF _) _).drew) dv dw dx⟩
   case rest=>
     obtain⟨A6,c6,a8,aj,ck,ao⟩:=hcut;rename World=>R
     clear r0 r1 z5;have r0:R.cell? (rb,0)=some (.int .i64 left):=Ah.cell ao 0;have r1:R.cell? (rb,1)=some (.slice p (g.right k).length l):=Ah.cell ao 1;have z2:R.cell? (mb,2)=some (.slice AR g.R.length cR):=Ah.cell aj 2;have z7:R.cell? (mb,7)=some (.slice (j,0) N N):=Ah.cell aj 7;have fd:=ao.lt;have fb:=aj.lt;have b7:k<g.R.length->(g.R.getD k (0,[])).1=left/\left<=g.top:=fun h=>by have h1:=fy.out;unfold Gz.Bo at h1;rw[if_neg (by omega)]at h1;refine⟨h1,?_⟩;have h2:=cp.left (g.R.getD k (0,[])) (by rw[dG,eG h];exact List.getElem_mem h);omega
     have dp:=Hd b7;clear b7
     go_upto_if 63 with fail
     go_cut [] (fun wx=>∃(R2:List (Value×List Nat)),Hid (Cq P w wx F g E C (.slice A6 (k+1) c6) (.slice At k ct) j N (min (k+1) g.R.length) (RV++[.slice p (g.right k).length l]) TV R2 ((List.range k).map (g.DF E C)))/\Hid (Ah wx mb 209 (EB (.agg #[.slice AT g.nt cT,.slice AN g.nn cN,.slice AR g.R.length cR,g.s]) lv (.slice A6 (k+1) c6) (.slice At k ct) (.slice (j,0) N N) ad bv av ev fv))/\Hid (Aj (·=mb) w wx)/\Hid (Ah wx rb 119 #[left,.slice p (g.right k).length l]))
     case first=>
      by_cases b8:k<g.R.length
      ·have em:(k:Int)<(g.R.length:Int):=by omega
       obtain⟨en,iu⟩:=dp b8;have gs:=a8.AK.len;obtain⟨⟨xv,U⟩,o⟩:∃x,a7[left]?=some x:=⟨_,eG (by omega)⟩
       obtain⟨Au,cu,fa⟩:=CG (a8.AK.own left _ o);simp only at fa;subst fa;have ag:=a8.AK.row;rw[<-HN.out]at ag;have cc:=Bh ag left (by rw[HN.out];omega);rw[pG,o]at cc;simp only[Option.map_some]at cc;have ig:=G2 ag left;have ht:=(BY ag j rfl).1;have br:Hid (R.ownsRow w 3 1 (.slice Au U.length cu) U.length (U.map AV)):=Hd (a8.AK.own left _ o);have j0:U.length<=1000:=by
        have h3:(a7.map (·.2))[left]?=some U:=by rw[pG,o];rfl
        rw[a8.lists,pG]at h3;obtain⟨b4,hj,e⟩:=Option.map_eq_some_iff.1 h3;rw[<-e];have:=Zt g (min k g.R.length) b4;omega
       have iw:(left:Int)<(N:Int):=by have:=HN.out;omega
       have HX:=Hd o;have d5:=Hd en;have ea:(RV++[(.slice p (g.right k).length l:Value)]).length=k+1:=by have:=a5.1;simp;omega
       have b9:min k g.R.length=k:=by omega
       have da:min (k+1) g.R.length=k+1:=by omega
       have i9:=Hd (And.intro ea (And.intro b9 da));have bp:Hid (∀(Y I:World) (A7:Option Addr) (c7:Nat),Below R R Y->I.ownsRow w 3 1 (.slice A7 (U.length+1) c7) (U.length+1) (U.map AV++[.int .i64 (k:Nat)])->AI w [3] Y I->(Y.grownBy I (Value.slice Au U.length cu).ownBlock/\((Value.slice A7 (U.length+1) c7).ownBlock=(Value.slice Au U.length cu).ownBlock\/(Value.slice A7 (U.length+1) c7).ownBlock=some Y.heap.size)) ->
          ∃R2,Hid (Cq P w (I.setCell (j,left) (.slice A7 (U.length+1) c7)) F g E C (.slice A6 (k+1) c6) (.slice At k ct) j N (min (k+1) g.R.length) (RV++[.slice p (g.right k).length l]) TV R2 ((List.range k).map (g.DF E C)))/\Hid (Ah (I.setCell (j,left) (.slice A7 (U.length+1) c7)) mb 209 (EB (.agg #[.slice AT g.nt cT,.slice AN g.nn cN,.slice AR g.R.length cR,g.s]) lv (.slice A6 (k+1) c6) (.slice At k ct) (.slice (j,0) N N) ad bv av ev fv))/\Hid (Aj (·=mb) w (I.setCell (j,left) (.slice A7 (U.length+1) c7)))/\Hid (Ah (I.setCell (j,left) (.slice A7 (U.length+1) c7)) rb 119 #[left,.slice p (g.right k).length l])):=Hd (fun Y I A7 c7 t q1 J q3=>by
        have hM:=a8.out;rw[b9]at hM;obtain⟨R2,gl⟩:=hM.jZ (by omega) HX d5 (nv:=.slice A7 (U.length+1) c7) t q1 J q3;have ec:=J.Ap (aj.below t aj.lt) (.inr (by decide));have ey:=J.Ap (ao.below t ao.lt) (.inr (by decide));obtain⟨bw,gr⟩:=(a8.AK.later t).Ap;have ef:=J.Ap gr (.inr (by decide));have hr:w.heap.size<=j:=(BY ag j rfl).2;rw[da];refine⟨R2,Hd gl,Hd (ec.BA (p:=⟨j,left,none⟩) (Ah.Bf ec ef (by decide)) _),Hd ((ck.next (Aj.AJ t)).trans (Y:=fun b=>w.heap.size<=b) (J.AE.next (Aj.set (X:=fun b=>w.heap.size<=b) (Aj.refl _ I) (p:=⟨j,left,none⟩) (.inr hr) _)) (fun a0 hi o=>by omega)),Hd (ey.BA (p:=⟨j,left,none⟩) (Ah.Bf ey ef (by decide)) _)⟩)
       have g7:Hid (∀Y,Below R R Y->Y.cell? (mb,7)=some (.slice (j,0) N N)/\Y.cell? (rb,0)=some (.int .i64 left)/\Y.cell? (j,left)=some (.slice Au U.length cu)):=Hd (fun Y t=>⟨(t.cell (p:=⟨mb,7,none⟩) fb).trans z7,(t.cell (p:=⟨rb,0,none⟩) fd).trans r0,(t.cell (p:=⟨j,left,none⟩) ht).trans cc⟩);clear o ag en ea b9 da gs;go_upto_region 8 with fail
       refine DU 18 (fun v:World=>v.cell? (mb,7)=some (.slice (j,0) N N)/\v.cell? (rb,0)=some (.int .i64 left)/\v.cell? (j,left)=some (.slice Au U.length cu)) (by kernel_rfl) ?_;have a4:(fun v:World=>v.cell? (mb,7)=some (.slice (j,0) N N)/\v.cell? (rb,0)=some (.int .i64 left)/\v.cell? (j,left)=some (.slice Au U.length cu)) R.drew:=⟨z7,r0,cc⟩
       refine AA 0 a4 ?_;simp only[Aw,Ay];refine AA 1 a4 ?_;simp only[Aw,Ay];refine AA 2 a4 ?_;simp only[Aw,Ay];refine AA 3 a4 ?_;simp only[Aw,Ay];refine AA 4 a4 ?_;simp only[Aw,Ay];refine AA 5 a4 ?_;simp only[Aw,Ay];refine AA 6 a4 ?_;simp only[Aw,Ay];refine AA 7 a4 ?_;simp only[Aw,Ay];refine AA 8 a4 ?_;simp only[Aw,Ay];refine AA 9 a4 ?_;simp only[Aw,Ay];refine AA 10 a4 ?_;simp only[Aw,Ay];refine AA 11 a4 ?_;simp only[Aw,Ay];refine AA 12 a4 ?_;simp only[Aw,Ay];refine AA 13 a4 ?_;simp only[Aw,Ay]
       refine AA 14 a4 ?_;simp only[Aw,Ay];refine Bk 15 (by kernel_rfl) rfl rfl (fun K hK=>?_);go_simp;refine hK _ _ (fun _=>?_) ?_
       ·exact g7 _ (((Below.refl _ R).alloc (AF _) _).drew)
       clear hK K a4;refine FX 16 (by kernel_rfl) rfl rfl rfl (fun K hK=>?_);refine EI Iq (.tmp 77) (.tmp 79) rfl (base:=w.heap.size) (n:=U.length) (m:=1) (N:=U.length+1) (v:=.slice Au U.length cu) (src:=.slice (R,0) 1 1) (xs:=U.map AV) (news:=[.int .i64 (k:Nat)]) rfl rfl (AS (br.alloc _) ((Below.refl _ _).drew)) (AY.Ap (c:=1) (cs:=[.int .i64 (k:Nat)]) (Ah.drew (Ah.new R 3 _)) rfl (by simp[Value.oneCell'])) rfl (by unfold maxLen;omega) (by omega) (by have:=a8.CS.size;simp;omega) ?_;intro A7 c7 I q1 J q3;have d0:Hid (I.ownsRow w 43 1 (.slice (j,0) N N) N (a7.map (·.1))):=Hd (by have ag:=a8.AK.row;rw[<-HN.out]at ag;exact J.own (AS (ag.alloc _) ((Below.refl _ _).drew)) (.inr (by decide)))
       have f5:I.cell? (j,left)=some (.slice Au U.length cu):=by rw[Bh d0.out left (by omega),pG,HX.out];rfl
       have ih:=G2 d0 left;have j3:=(BY d0 j rfl).1;have g5:Hid (Ah I rb 119 #[left,.slice p (g.right k).length l]):=Hd (J.Ap (Ah.drew (ao.alloc _)) (.inr (by decide)));have al:Hid (Ah I mb 209 (EB (.agg #[.slice AT g.nt cT,.slice AN g.nn cN,.slice AR g.R.length cR,g.s]) lv (.slice A6 (k+1) c6) (.slice At k ct) (.slice (j,0) N N) ad bv av ev fv)):=Hd (J.Ap (Ah.drew (aj.alloc _)) (.inr (by decide)));have fc:I.cell? (rb,0)=some (.int .i64 left):=Ah.cell g5 0;have ff:I.cell? (mb,7)=some (.slice (j,0) N N):=Ah.cell al 7
       have fu:=Hd (bp _ I A7 c7 (((Below.refl _ R).alloc (AF _) _).drew) q1 J q3);clear q1 J q3;refine hK _ _ (fun _=>⟨ff,fc,f5⟩) ?_;clear hK K;simp only[List.set_cons_succ,List.set_cons_zero];have a4:(fun(v:World)=>v.cell? (mb,7)=some (.slice (j,0) N N)/\v.cell? (rb,0)=some (.int .i64 left)/\v.cell? (j,left)=some (.slice Au U.length cu)) I:=⟨ff,fc,f5⟩
       refine AA 17 a4 ?_;simp only[Aw,Ay];clear a4;refine Bk 18 (by kernel_rfl) rfl rfl (fun K hK=>?_);go_simp;refine hK _ _ (fun h=>absurd rfl h) ?_;clear hK K;refine Dy (by kernel_rfl) ?_ _;go_wp2_with fail
       go_meet
       exact fu
      ·have em:¬((k:Int)<(g.R.length:Int)):=by omega
       have b9:min k g.R.length=min (k+1) g.R.length:=by omega
       have dr:=a8;rw[b9]at dr;clear b9;go_wp2_with fail
       go_meet
       exact⟨a7,dr,aj,ck,ao⟩
     case rest=>
      obtain⟨R2,al,bo,fl,be⟩:=hcut;rename World=>I
      clear r0 r1 z2 z7 HM ab cn b6 ak du e6 an aw dm a8 aj ck ao bt ai dp rl fd ml fb gv;have r1:I.cell? (rb,1)=some (.slice p (g.right k).length l):=Ah.cell be 1;have hx:=be.lt;have ax:Hid (BD I (.slice p (g.right k).length l) (g.right k)):=Hd (by have h:=al.CS.Hi k (.slice p (g.right k).length l) (by rw[List.getElem?_append_right (by rw[a5.1];omega),a5.1,Nat.sub_self];rfl);exact h.1)
      obtain⟨len,bk⟩:∃n,(g.right k).length=n:=⟨_,rfl⟩
      have iv:len<=8:=by
       rw[<-bk];unfold Gz.right Gz.Bo;split
       ·simp
       ·rw[dG]
        cases hq:g.R[k]? with
        | none=>simp
        | some r=>exact cp.short r (mG hq)
      have ix:len<=l:=by rw[<-bk];exact(ax.room _ _ _ rfl).1
      have d5:Hid (∀x∈g.right k,x<=g.top):=Hd (fun x o=>cp.Mo o);have cq:=Hd bk;rw[bk]at r1 ax al be;clear bk;have fz:Hid (∀y,Below I I y->∀lv (a3:List Nat),BD y lv a3->(∀x∈a3,x<=g.top)->() 154 #[(F.q,0),lv] y fun e w'=>∃A c,e=.returned (.tuple #[.slice A (Bp (g.nt+1) (Dp E C a3 0).1).length c,.bool (Dp E C a3 0).2])/\BD w' (.slice A (Bp (g.nt+1) (Dp E C a3 0).1).length c) (Bp (g.nt+1) (Dp E C a3 0).1)/\Below y y w'):=Hd (fun y t lv a3 h1 h2=>bV (al.CS.fst.later t) h1 h2 eu)
      have g8:Hid (∀y,Below I I y->∀lv (a3:List Nat),BD y lv a3->(∀x∈a3,x<=g.nt)->() 155 #[(mb,0),lv] y fun e w'=>∃h:AH,e=.returned h.v/\h.n=g.nt+1/\y.heap.size<=h.h/\y.heap.size<=h.wb/\AP w' h (Ho a3)/\Below y y w'):=Hd (fun y t lv a3 h1 h2=>UT (w:=y) (Ah.cell (bo.below t bo.lt) 0) eu h1 h2);have g0:Hid (∀a3,(Dp E C a3 0).1<2 ^ (g.nt+1)):=Hd (fun a3=>al.CS.fst.V5 a3);go_wp2_with fail
      clear r1 hx;go_loopg [6,85] len (fun m sv ii wr=>∃(d:Nat) (Z:List (AH×(Nat×Bool))),Hid (m+d=len)/\d<=len/\ii=.int .i64 d/\Hid (Z.length=d)/\Hid (GC I wr (g.nt+1) sv Z)/\Hid (Z.map (·.2)=(g.DF E C k).take d))
      case atStart=>exact⟨0,[],Hd rfl,AX _,rfl,Hd rfl,Hd (GC.start I _),Hd rfl⟩
      case round=>
       obtain⟨d,Z,cz,hd,rfl,bf,ay,d6⟩:=hrel;rename World=>w8
       have aa:=Hd ay.below;have dy:=Hd (be.below aa be.lt);have r1:w8.cell? (rb,1)=some (.slice p len l):=Ah.cell dy 1;have hy:=dy.lt;obtain⟨A5,c5,f2⟩:=CG ay.row;rw[bf.out]at f2;subst f2;by_cases b8:d<len
       ·obtain⟨x,o⟩:∃x,(g.right k)[d]?=some x:=⟨_,eG (by rw[cq.out];exact b8)⟩
        obtain⟨b,off,rfl,hb,gq⟩:∃b off,p=some ⟨b,off,none⟩/\b<w8.heap.size/\w8.cell? ⟨b,off+d,none⟩=some (.int .i64 x):=by
          obtain⟨⟨A',c',e,hc⟩,-,-⟩:=ax.later aa;cases e
          exact hc d x o
        obtain⟨sa,ho⟩:∃sa,(if l=d+1 then some (⟨b,off,none⟩:Addr) else some ⟨b,off+(d+1),none⟩)=sa:=⟨_,rfl⟩
        obtain⟨⟨SS,ee⟩,bz⟩:∃q,Dp E C ((g.right k).drop (d+1)) 0=q:=⟨_,rfl⟩
        have fs:Hid (BD w8 (.slice sa (len-(d+1)) (l-(d+1))) ((g.right k).drop (d+1))):=Hd (by have h:=(ax.later aa).cut (d+1) (by omega);rwa [ho]at h)
        have g9:Hid (SS<2 ^ (g.nt+1)):=Hd (by have h:=g0 ((g.right k).drop (d+1));rw[bz]at h;exact h);have dn:Hid (() 154 #[(F.q,0),.slice sa (len-(d+1)) (l-(d+1))] w8 fun e w'=>∃A c,e=.returned (.tuple #[.slice A (Bp (g.nt+1) SS).length c,.bool ee])/\BD w' (.slice A (Bp (g.nt+1) SS).length c) (Bp (g.nt+1) SS)/\Below w8 w8 w'):=Hd (by have h:=fz w8 aa _ _ fs (fun z hz=>d5 z (List.mem_of_mem_drop hz));rw[bz]at h;exact h)
        obtain⟨BL,bx⟩:∃a3,Bp (g.nt+1) SS=a3:=⟨_,rfl⟩
        have dg:Hid (Ho BL=SS/\∀x∈BL,x<=g.nt):=Hd ⟨by rw[<-bx];exact Vp g9,fun x o=>by rw[<-bx]at o;have:=Yf o;omega⟩;rw[bx]at dn;have gd:Hid ((g.DF E C k).take (d+1)=(g.DF E C k).take d++[(SS,ee)]):=Hd (by
          have h:(g.DF E C k)[d]?=some (SS,ee):=by unfold Gz.DF;rw[pG,List.getElem?_range (by rw[cq.out];exact b8),<-bz];rfl
          rw[List.take_add_one,h];rfl)
        have i3:(0:Int)<=(d:Int)+1:=by omega
        have i4:(d:Int)+1<=(len:Int):=by omega
        have i5:(len:Int)<=(l:Int):=by omega
        have i6:IntKind.i64.wrap ((d:Int)+1)=(d:Int)+1:=by rw[IntKind.wrap_i64];omega
        have i7:d+1<=len:=by omega
        clear o gq hb bz bx;generalize ed:BL.length=bl at *;have i1:=Hd ed;clear ed;go_wp2_with (first
          | (
             go_at_call 154;refine dn.mono ?_;rintro e j8 ⟨A9,c9,rfl,es,ae⟩
             have g4:=Hd es;have ai:=Hd ae;have cf:=Hd (aa.trans (ae.mono aa.size));clear es ae)
          | (
             go_at_call 155;refine(g8 _ cf _ BL g4 dg.2).mono ?_;rintro e cd ⟨t0,rfl,er,ek,f6,ba,bh⟩
             rw[dg.1]at ba;have ga:=Hd (And.intro er (And.intro (And.intro ek f6) ba));have cg:=Hd (ai.trans (bh.mono ai.size));unfold AH.v;clear er ek f6 ba bh)
          | (
             at_builtin;refine Dc kW (.tmp 98) (.tmp 104) rfl rfl (base:=I.heap.size) (n:=d) (m:=1) (N:=d+1) (xs:=Z.flatMap IJ) (news:=IJ (t0,(SS,ee))) rfl rfl (AS (by have h:=(ay.later cg).row;rw[bf.out]at h;exact h) (AG cd (.cells #[(t0.h,0),.bool ee] 252))) (AY.Ap (c:=1) (cs:=IJ (t0,(SS,ee))) (Ah.new cd 252 _) rfl (fun u hu=>by unfold IJ at hu;simp at hu;rcases hu with rfl|rfl<;>rfl)) rfl (by unfold maxLen;omega) (by omega) (by have h1:=cf.size;have h2:=cg.size;have h3:=aa.size;simp;omega) ?_
             intro dc e7 i0 q1 J q3;have gf:Hid (GC I i0 (g.nt+1) (.slice dc (d+1) e7) (Z++[(t0,(SS,ee))])):=Hd (by have hh:=(ay.later cg).later (AG cd (.cells #[(t0.h,0),.bool ee] 252));have hz:=bf.out;have hb10:=cf.size;obtain⟨n0,⟨h0,h1⟩,s0⟩:=ga.out;have hm:=hh.more (t:=t0) (S:=SS) (e:=ee) (s0.later (AG cd _)) n0 ⟨by omega,by omega⟩ (A:=dc) (c:=e7) (by rw[hz];exact q1) J;rw[hz]at hm;exact hm)
             clear q1 J q3))
        go_roundg (len-(d+1))
        case measure=>have:=cz.out;omega
        case rel=>exact⟨d+1,Z++[(t0,(SS,ee))],Hd (by have:=cz.out;omega),by omega,by go_num,Hd (by simp[bf.out]),gf,Hd (by rw[By,d6.out,gd.out];rfl)⟩
       ·obtain rfl:d=len:=by omega
        have an:=Hd (al.later aa);have ak:=Hd (bo.below aa bo.lt);have gb:Hid (Z.map (·.2)=g.DF E C k):=Hd (by have h:=d6.out;rw[De (by unfold Gz.DF;rw[lM,List.length_range,cq.out];exact AF _)]at h;exact h)
        have z6:w8.cell? (mb,6)=some (.slice At k ct):=Ah.cell ak 6;have j5:=ak.lt;have it:k<=1000:=by omega
        clear r1 hy cz d6;go_wp2_with (
                 at_builtin;refine Dc aO (.tmp 111) (.tmp 113) rfl rfl (base:=w.heap.size) (n:=k) (m:=1) (N:=k+1) (xs:=TV) (news:=[.slice A5 d c5]) rfl rfl (AS (by have h:=an.Hg;rw[a5.2]at h;exact h) (AG w8 (.cells #[.slice A5 d c5] 247))) (AY.Ap (c:=1) (cs:=[.slice A5 d c5]) (Ah.new w8 247 _) rfl (by simp[Value.oneCell'])) rfl (by unfold maxLen;omega) (by omega) (by have:=an.CS.size;simp;omega) ?_
                 intro A9 c9 w9 q1 J q3;have ae:=J.Ap (ak.alloc (.cells #[.slice A5 d c5] 247)) (.inr (by decide));have ai:=Hd ae;have f9:=Ah.frozen ae 6;have z9:w9.cell? (mb,6)=some (.slice At k ct):=Ah.cell ae 6;have l9:=ae.lt;have g2:Hid (∃R3,Cq P w (w9.setCell (mb,6) (.slice A9 (k+1) c9)) F g E C (.slice A6 (k+1) c6) (.slice A9 (k+1) c9) j N (min (k+1) g.R.length) (RV++[.slice p d l]) (TV++[.slice A5 d c5]) R3 ((List.range (k+1)).map (g.DF E C))):=Hd (by
                  have hA:=an.later (AG w8 (.cells #[.slice A5 d c5] 247));have hT:=(ay.later (AG w8 (.cells #[.slice A5 d c5] 247))).Yz (lo:=w.heap.size) (by have:=al.CS.size;omega) (by rw[bf.out];omega);rw[gb.out]at hT;have d9:=a5.2;have hM:=hA.L3 (x:=.slice A5 d c5) (l:=g.DF E C k) (A:=A9) (c:=c9) (by rw[d9];exact q1) q3.1 hT (by rw[d9];simp);rw[d9]at hM;have e:(List.range (k+1)).map (g.DF E C)=(List.range k).map (g.DF E C)++[g.DF E C k]:=by rw[List.range_succ,By];rfl
                  rw[e];exact⟨_,hM.BA ae bq 6 _⟩)
                 have fo:Hid (Aj (·=mb) w (w9.setCell (mb,6) (.slice A9 (k+1) c9))):=Hd (((fl.next (Aj.AJ aa)).alloc (.cells #[.slice A5 d c5] 247)).trans (Y:=fun b=>b=mb\/w.heap.size<=b) ((J.AE.mono fun b hb=>.inr hb).next (Aj.set (X:=fun b=>b=mb\/w.heap.size<=b) (Aj.refl _ w9) (p:=⟨mb,6,none⟩) (.inr (.inl rfl)) _)) (fun a0 hi o=>o.resolve_right (by omega)));clear q1 J q3 ae)
        obtain⟨R3,bd⟩:=g2.out
        go_roundg (g.R.length-k)
        case measure=>have:=dt.out;omega
        case rel=>exact⟨k+1,_,_,_,_,R3,Hd (by have:=dt.out;omega),by omega,by go_num,Hd ⟨by simp[a5.1],by simp[a5.2]⟩,Hd bd,Hd (ai.Be 6 _),fo⟩
  ·obtain rfl:k=g.R.length+1:=by omega
   have ep:min (g.R.length+1) g.R.length=g.R.length:=by omega
   have g1:Hid (Cq P w w9 F g E C rv a9 j N g.R.length RV TV a7 T):=Hd (by have h:=HM.out;rw[ep,<-e0.out]at h;exact h);have em:¬(((g.R.length:Int)+1)<((g.R.length:Int)+1)):=by omega
   have j6:=ab.lt;have ay:Hid (∀k,k<=g.R.length->(T.getD k []).length=(g.right k).length):=Hd (fun k hk=>by rw[e0.out,dG,pG,List.getElem?_range (by omega)];unfold Gz.DF;simp)
   have fq:Hid (∀(y:World) (mv:Array Value) (s:Nat),Cq P w y F g E C rv a9 j N g.R.length RV TV a7 T->(∀b4,b4<4->y.cell? ⟨mb,b4,none⟩=(Value.agg #[.slice AT g.nt cT,.slice AN g.nn cN,.slice AR g.R.length cR,g.s]).cells[b4]?)->y.cell? (mb,5)=some rv->y.cell? (mb,6)=some a9->y.cell? (mb,7)=some (.slice (j,0) N N)->g.nt<s->s<N ->
      () 156 #[(mb,0),.int .i64 s] y fun e w'=>∃A c,e=.returned (.slice A (CC.getD s []).length c)/\DW (fun b=>y.heap.size<=b/\b<w'.heap.size) w' (g.nt+1) (.slice A (CC.getD s []).length c) (CC.getD s [])/\Below y y w'):=Hd (fun y mv s hM hc h5 h6 h7 ca f0=>by
     have he:s<g.top+1:=by rw[<-HN.out];exact f0
     obtain⟨d1,d2,d3⟩:=hM.done a5.1 a5.2 et f3;have db:∀b,Hm P w y b->Old y.heap.size b:=fun b hb=>hb.2
     rw[<-HN.out]at d3;refine(VZ (fp y hM.CS.below) hc h5 h6 h7 (d1.mono db) (by rw[<-HN.out];exact d3.mono db) (d2.mono db) ay ca (by omega) (Y5 di ca he)).mono ?_;rintro e w' ⟨cv,rfl,h1,h2⟩;obtain⟨A,c,hv,hh⟩:=h1;exact⟨A,c,by rw[hv],⟨A,c,rfl,hh⟩,h2⟩)
   have gg:=Hd (HT w9 ai);have h4:g.nt+1<=N:=by have h:=HN.out;unfold Gz.top at h;omega
   clear HM ep;go_wp2_with (
             go_at_call 103;refine gg.mono ?_;rintro e i ⟨rfl,af⟩
             have dq:=Hd (g1.later af);have b5:=Hd (ab.below af ab.lt);have fj:=Hd (cn.next (Aj.AJ af));have f8:=Ah.frozen b5 8;have x8:i.cell? (mb,8)=some ad:=Ah.cell b5 8;have x0:i.cell? (mb,0)=some (.slice AT g.nt cT):=Ah.cell b5 0;have l2:=b5.lt;clear af)
   have dk:Hid (Cq P w ((i.setCell (mb,8) (.slice (i,0) N N)).alloc (.cells (Array.replicate N (.slice none 0 0)) 253)) F g E C rv a9 j N g.R.length RV TV a7 T/\Ah ((i.setCell (mb,8) (.slice (i,0) N N)).alloc (.cells (Array.replicate N (.slice none 0 0)) 253)) mb 209 (EB (.agg #[.slice AT g.nt cT,.slice AN g.nn cN,.slice AR g.R.length cR,g.s]) lv rv a9 (.slice (j,0) N N) (.slice (i,0) N N) bv av ev fv)/\Aj (·=mb) w ((i.setCell (mb,8) (.slice (i,0) N N)).alloc (.cells (Array.replicate N (.slice none 0 0)) 253)) /\
      ((i.setCell (mb,8) (.slice (i,0) N N)).alloc (.cells (Array.replicate N (.slice none 0 0)) 253)).ownsRow w 253 1 (.slice (i,0) N N) N (List.replicate N (.slice none 0 0))):=Hd (by
     have ar:(i.setCell (mb,8) (.slice (i,0) N N)).heap.size=i.heap.size:=by simp[World.setCell]
     refine⟨(dq.BA b5 bq 8 _).later (DJ _ _),(b5.Be 8 _).alloc _,(fj.set (X:=(·=mb)) (p:=⟨mb,8,none⟩) (.inr rfl) _).alloc _,⟨by simp,.inr ⟨i.heap.size,N,Array.replicate N (.slice none 0 0),rfl,dq.CS.size,?_,AF _,by unfold maxLen;omega,by simp,by simp⟩⟩⟩;have h:=Ah.new (i.setCell (mb,8) (.slice (i,0) N N)) 253 (Array.replicate N (.slice none 0 0));rw[ar]at h;exact h)
   generalize (i.setCell (mb,8) (.slice (i,0) N N)).alloc (.cells (Array.replicate N (.slice none 0 0)) 253)=W1 at *;generalize i.heap.size=cb at *;obtain⟨cy,cj,cm,d4⟩:=dk.out;have cy:=Hd cy;have cj:=Hd cj;have cm:=Hd cm;have d4:=Hd d4;clear dk f8 x8 x0 l2 gx z0 z1 z2 z3;go_loopg [10] (N-(g.nt+1)) (fun m ss wr=>∃(s:Nat) (CV:List Value),Hid (m+s=N)/\g.nt<s/\s<=N/\ss=.int .i64 s/\Hid (Cq P w wr F g E C rv a9 j N g.R.length RV TV a7 T)/\Hid (Ah wr mb 209 (EB (.agg #[.slice AT g.nt cT,.slice AN g.nn cN,.slice AR g.R.length cR,g.s]) lv rv a9 (.slice (j,0) N N) (.slice (cb,0) N N) bv av ev fv))/\Hid (Aj (·=mb) w wr)/\Hid (wr.ownsRow w 253 1 (.slice (cb,0) N N) N CV)/\Hid (∀a0 x,CV[a0]?=some x->DW (fun b=>cb<b/\b<wr.heap.size) wr (g.nt+1) x (if a0<s then CC.getD a0 [] else[])))
   case atStart=>
     refine⟨g.nt+1,_,Hd (by omega),Nat.lt_succ_self _,h4,by go_num,cy,cj,cm,d4,Hd (fun a0 x o=>?_)⟩;obtain⟨h1,rfl⟩:=sG.1 o;rw[List.getElem_replicate];split
     ·rw[fY di.out (by omega)]
      exact DW.JA _ _ _
     ·exact DW.JA _ _ _
   case round=>
     obtain⟨s,CV,g3,ca,f0,rfl,bd,ah,dh,bu,e5⟩:=hrel;rename World=>w8
     have fg:=Hd bd.CS.below;have z0:w8.cell? (mb,0)=some (.slice AT g.nt cT):=Ah.cell ah 0;have z1:w8.cell? (mb,1)=some (.slice AN g.nn cN):=Ah.cell ah 1;have z2:w8.cell? (mb,2)=some (.slice AR g.R.length cR):=Ah.cell ah 2;have z3:w8.cell? (mb,3)=some (.int .i64 g.s):=Ah.cell ah 3;have dz:=Hd (HT w8 fg);have ds:=HN.out;by_cases b8:s<N
     ·have hp:(s:Int)<=(g.top:Int):=by omega
      have iz:(s:Int)<(N:Int):=by omega
      clear ds;go_upto_region 22 with(
                   go_at_call 103;refine dz.mono ?_;rintro e w4 ⟨rfl,bi⟩
                   have a6:=Hd bi;clear bi)
      have cx:=Hd (bd.later a6);have bc:=Hd (ah.below a6 ah.lt);have e1:=Hd (AS bu a6);have fk:=Hd (dh.next (Aj.AJ a6));have z8:w4.cell? (mb,8)=some (.slice (cb,0) N N):=Ah.cell bc 8;have j4:=bc.lt;have dj:Hid (() 156 #[(mb,0),.int .i64 s] w4.drew fun e w'=>∃A c,e=.returned (.slice A (CC.getD s []).length c)/\DW (fun b=>w4.heap.size<=b/\b<w'.heap.size) w' (g.nt+1) (.slice A (CC.getD s []).length c) (CC.getD s [])/\Below w4 w4 w'):=Hd (by
       have hd:Below w4 w4 w4.drew:=(Below.refl _ w4).drew;have hb:=bc.drew;refine(fq w4.drew #[] s (cx.later hd) (fun b4 hj=>?_) (Ah.cell hb 5) (Ah.cell hb 6) (Ah.cell hb 7) ca b8).mono ?_
       ·rw[hb.cell]
        match b4,hj with
        | 0,_=>rfl
        | 1,_=>rfl
        | 2,_=>rfl
        | 3,_=>rfl
       ·rintro e w' ⟨A,c,rfl,h1,h2⟩
        exact⟨A,c,rfl,h1,hd.trans h2⟩)
      obtain⟨cs,b0⟩:∃cs,CC.getD s []=cs:=⟨_,rfl⟩
      rw[b0]at dj;have fr:=Hd b0;clear b0 z0 z1 z2 z3;have gp:=(BY e1 cb rfl).1;have fm:=Hd gp;generalize d8:cs.length=cl at *;have i2:=Hd d8;clear d8;go_region_law (first|(
                   go_simp;go_at_call 156;refine dj.mono ?_;rintro e w5 ⟨A5,c5,rfl,h5,c8⟩;have H5:=Hd h5;have bm:=Hd c8;have bn:=Hd (bc.below c8 bc.lt);have aq:=Hd (AS e1 c8);have j9:w5.cell? (mb,8)=some (.slice (cb,0) N N):=Ah.cell bn 8;have j7:=bn.lt;have ic:=G2 aq s;have gi:=Bh aq s (by omega);have ei:CV[s]?=some (CV[s]'(by have:=aq.1;omega)):=eG _;rw[ei]at gi;have j1:=(BY aq cb rfl).1;clear h5 c8 ei))
      all_goals go_wp2_with fail
      all_goals go_roundg (N-(s+1))
      all_goals first
       | (have:=g3.out;omega)
       | (
         obtain⟨ib,eh⟩:∃bw,Ah w5 cb 253 bw:=by
           rcases aq.2 with⟨hh,_⟩|⟨g',cap,bw,hh,hB,gu,_⟩
           · cases hh
           · cases hh;exact⟨bw,gu⟩
         have iq:=(BY aq cb rfl).2;have b0:Aj (·=cb) w5 (w5.setCell ⟨cb,s,none⟩ (.slice A5 cl c5)):=Aj.set (X:=(·=cb)) (Aj.refl _ w5) (p:=⟨cb,s,none⟩) (.inr rfl) _;have ar:(w5.setCell ⟨cb,s,none⟩ (.slice A5 cl c5)).heap.size=w5.heap.size:=by simp[World.setCell]
         have d8:cb<w4.heap.size:=fm.out;have ij:=bm.size;have e8:=a6.size;have il:=cx.CS.base;refine⟨s+1,CV.set s (.slice A5 cl c5),Hd (by omega),by omega,by omega,by go_num,Hd ((cx.later bm).Uq eh (by omega) (by decide) (by decide) (by decide) (by decide) (by decide) (by decide) (by decide) (by decide) s _),Hd (bn.BA (p:=⟨cb,s,none⟩) (Ah.Bf bn eh (by decide)) _),Hd ((fk.next (Aj.AJ bm)).trans b0 (fun a0 hi e=>by have e2:a0=cb:=e;omega)),Hd (Gu aq s (by omega) _),Hd (fun a0 x o=>?_)⟩
         by_cases el:a0=s
         · subst el
           rw[tG (by have:=aq.1;omega)]at o;cases o
           rw[if_pos (Nat.lt_succ_self _),fr.out];refine(H5.AE b0 (fun b hb e=>by have e2:b=cb:=e;omega)).mono fun b hb=>?_
           rw[ar];omega
         · rw[uG (fun e=>el e.symm)]at o
           have h8:=e5 a0 x o;have h9:=(h8.AE (Aj.AJ (X:=fun _=>False) (a6.trans (bm.mono e8))) (fun _ _=>id)).AE b0 (fun b hb e=>by have e2:b=cb:=e;omega);have e3:(if a0<s+1 then CC.getD a0 [] else[])=(if a0<s then CC.getD a0 [] else[]):=by
             by_cases h:a0<s
             ·rw[if_pos h,if_pos (by omega)]
             ·rw[if_neg h,if_neg (by omega)]
           rw[e3];refine h9.mono fun b hb=>?_
           rw[ar];omega)
     ·obtain rfl:s=N:=by omega
      have hp:¬((s:Int)<=(g.top:Int)):=by omega
      clear ds;go_wp2_with (
               go_at_call 103;refine dz.mono ?_;rintro e w4 ⟨rfl,bi⟩
               have a6:=Hd bi;clear bi)
      go_end0
      have hM:=bd.later a6;have e8:=a6.size;obtain⟨d1,d2,d3⟩:=hM.done a5.1 a5.2 et f3;refine⟨rfl,hM.CS.below,hM.CS.size,dh.next (Aj.AJ a6),rv,a9,_,_,ah.below a6 ah.lt,d1,d2,?_,?_⟩
      ·rw[<-HN.out]at d3 ⊢
       exact d3
      ·rw[<-HN.out]
       have hV:=AS bu a6;have ip:=(BY bu cb rfl).2;have f1:∀b,w.heap.size<=b->b<w4.heap.size->Hm P w w4 b:=fun b a1 a2=>⟨.inr a1,a2⟩
       refine Bn.Nl hV (by omega) f1 fun a0 x o=>?_
       have hi:a0<s:=by have h1:=(sG.1 o).1;have h2:=bu.1;omega
       have h8:=e5 a0 x o;rw[if_pos hi]at h8;exact(h8.AE (Aj.AJ (X:=fun _=>False) a6) (fun _ _=>id)).mono fun b hb=>f1 b (by omega) (by omega)
end Go.Proofs.YtlogpnoioimhjaaGreatDoor
