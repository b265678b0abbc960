/- . -/
import Derived.Test.YtiljpamcmmeflaaGreatDoorXaf
import Derived.Deep.RegionHeld3
import Derived.Test.YtiljpamcmmeflaaGreatDoorXae
import Derived.Deep.RegionLaw
import Derived.BigRegion
import Derived.Test.YtiljpamcmmeflaaGreatDoorXnm
set_option linter.all false
set_option maxRecDepth 100000
set_option maxHeartbeats 16000000
namespace Go.Proofs.YtiljpamcmmeflaaGreatDoor
open Go.RowKit
open Value renaming slice→nC,int→nE,pointer→nF,bool→nI
open Option renaming some→nJ,none→nK
open IntKind renaming i64→nM
open Obj renaming cells→nO
open Ending renaming returned→nP
open World renaming cell?→nQ
open Go renaming World→nS,Value→nU
variable{rv v:nU}{p:AH}{j w':nS}{l:List Nat}{left:Nat}
def XP(P:List AH)(b:Nat):Prop:=∃p∈P,b=p.wb
def OA{w:nS}{s:AH}{S b o:Nat}(h:AU w s S)(j:nQ w (b,o)=nJ v)(l:∀z,v ≠ nE .u64 z):b≠s.wb:=by rintro rfl;have i:=h.words.cell o;rw[j]at i;unfold CP at i;rw[List.getElem?_toArray,pG]at i;obtain⟨z,_,p⟩:=Option.map_eq_some_iff.1 i.symm;exact l _ p.symm
def BA.mem{w:nS}{n:Nat}{P:List AH}{C:List Nat}(h:BA w n P C)(l:p∈P):∃S,AU w p S:=by obtain⟨i,j,rfl⟩:=List.mem_iff_getElem.1 l;exact⟨_,h.at_ i _ (eG j)⟩
def BA.cell{w:nS}{n:Nat}{P:List AH}{C:List Nat}(h:BA w n P C)(t:Aj (XP P) w w'){b o:Nat}(l:b<w.heap.size)(i:nQ w (b,o)=nJ v)(I:∀z,v ≠ nE .u64 z):w'.cell? (b,o)=nJ v:=by
 have R:¬XP P b:=by rintro⟨p,J,rfl⟩;obtain⟨S,j⟩:=h.mem J;exact OA j i I rfl
 rw[World.cell?_of_block (w:=w) (t.block b l R)];exact i
def BA.iG{w:nS}{n:Nat}{P:List AH}{C:List Nat}(h:BA w n P C)(i:Aj (XP P) w w')(I:Bv w v l):Bv w' v l:=by obtain⟨⟨A,c,T,t⟩,R,J⟩:=I;refine⟨⟨A,c,T,fun k x U=>?_⟩,R,J⟩;obtain⟨b,off,o,j,p⟩:=t k x U;exact⟨b,off,o,AK j i.size,h.cell i j p (fun z e=>by cases e)⟩
def Dw.Su{w:nS}{F:Fs}{g:Gz}{E n:Nat}{P:List AH}{C:List Nat}(h:Dw w F g E)(U:BA w n P C)(o:Aj (XP P) w w')(a0:∀p∈P,F.e.wb≠p.wb):Dw w' F g E:=by
 have t:∀b,XP P b->∃l,Ah w b 291 l:=fun b i=>by obtain⟨p,J,rfl⟩:=i;obtain⟨S,R⟩:=U.mem J;exact⟨_,R.words⟩
 refine⟨o.Ap h.Ap ?_,h.e.Ay o ?_ ?_,h.en,h.Ii,o.own h.bv ?_,o.own h.hv ?_,h.top⟩
 ·intro i
  obtain⟨l,j⟩:=t _ i;exact Ah.Bh h.Ap j mT rfl
 ·intro i
  obtain⟨l,j⟩:=t _ i;exact Ah.Bh h.e.head j mT rfl
 ·rintro⟨p,J,T⟩
  exact a0 p J T
 ·intro k I i
  obtain⟨l,j⟩:=t _ i;exact DL h.bv j mT I
 ·intro k I i
  obtain⟨l,j⟩:=t _ i;exact DL h.hv j mT I
def Aj.one{w:nS}{P:List AH}(h:Aj p.X w w')(j:p∈P):Aj (XP P) w w':=h.mono fun b i=>⟨p,j,i⟩
def BD.drop{o:Type}{E:o->nU}{w:nS}{b off n c:Nat}{l:List o}(h:BD E w (nC (b,off) n c) l)(k:Nat)(U:k<=n):BD E w (nC (b,off+k) (n-k) (c-k)) (l.drop k):=by
 obtain⟨⟨R,c1,P,t⟩,hs,J⟩:=h;have a0:=(J _ _ _ rfl).1;cases P
 refine⟨⟨_,c-k,by rw[List.length_drop],fun i x j=>?_⟩,by rw[List.length_drop];omega,fun _ _ _ e=>by cases e;exact⟨mR,fun e=>by cases e⟩⟩;rw[List.getElem?_drop]at j;obtain⟨T,a1,p,I,C⟩:=t (k+i) x j;cases p
 exact⟨b,off+k,rfl,I,by rw[show off+k+i=off+(k+i) by omega];exact C⟩
def BD.cut{i:Type}{E:i->nU}{w:nS}{b off n c:Nat}{l:List i}(h:BD E w (nC (b,off) n c) l)(k:Nat)(j:k<=n):BD E w (nC (if c=k then nJ ⟨b,off,nK⟩ else nJ ⟨b,off+k,nK⟩) (n-k) (c-k)) (l.drop k):=by
 have J:=(h.room _ _ _ rfl).1;split
 ·rename_i C
  have I:n=l.length:=by
   obtain⟨⟨t,c1,p,-⟩,-,-⟩:=h;cases p
   rfl
  have o:l.drop k=[]:=List.drop_eq_nil_of_le mR;rw[o,show n-k=0 by omega];exact BD.nil w _ _ (fun e=>by cases e)
 ·exact h.drop k j
def RJ(w:nS)(n:Nat)(P:List AH)(r:List Nat×Bool)(e:Ending)(w':nS):Prop:=e=nP (nI r.2)/\BA w' n P r.1/\Aj (XP P) w w'
def Vx{w:nS}{F:Fs}{g:Gz}{E:Nat}{C:List Nat}(h:Dw w F g E)(hf:BA w (g.nt+1) F.P C)(aw:∀p∈F.P,F.e.wb≠p.wb)(hl:Bv w rv l)(hx:∀x∈l,x<=g.top)(bk:left<=g.top) :
  () 217 #[(F.q,0),.agg #[left,rv]] w (RJ w (g.nt+1) F.P (EM g E (g.top+1) left l C false)):=by
 have a0:Hid (∀y,Aj (XP F.P) w y->Dw y F g E):=Hd (fun y i=>h.Su hf i aw);have az:Hid (∀y,Aj (XP F.P) w y->Bv y rv l):=Hd (fun y i=>hf.iG i hl);have HX:=Hd hx;have ba:=Hd hf;have bf:=Hd aw;have br:=h.top;obtain⟨bg,bc,I,a5,-,aa,-,bo⟩:=h.open_;have bm:=h.Ii;obtain⟨⟨A,c,rfl,-⟩,hs,b6⟩:=id hl;have bq:=(b6 _ _ _ rfl).1;have bh:=Hd (Ah.new w 145 #[left,nC A l.length c]);have U:Hid (Aj (XP F.P) w (w.alloc (nO #[left,nC A l.length c] 145))):=Hd ((Aj.refl _ w).alloc _);have an:Hid (∀y,Aj (XP F.P) (w.alloc (nO #[left,nC A l.length c] 145)) y->nQ y (w,0)=nJ (nE nM left)/\nQ y (w,1)=nJ (nC A l.length c)):=Hd (fun y i=>by
  have hb:=i.Ap bh (by rintro⟨p,hp,e⟩;have:=(ba.lt hp).2;omega)
  exact⟨hb.cell 0,hb.cell 1⟩)
 have bd:=Hd (hf.later (AE w (nO #[left,nC A l.length c] 145)));clear hx hf aw h hl b6;unfold RJ;generalize hR:EM g E (g.top+1) left l C false=bi;have HR:=Hd hR;clear hR;obtain⟨C',m'⟩:=bi;simp only;go_enter Tryz.func217,Tryz.ntmps217
 go_wp2_with fail
 generalize w.alloc (nO #[left,nC A l.length c] 145)=W0 at *;go_loopw [5,13] (fun mo ii wr=>∃(j:Nat) (P:List Nat) (m:Bool),j<=l.length/\ii=nE nM j/\mo=nI m/\Hid (BA wr (g.nt+1) F.P P)/\Hid (Aj (XP F.P) W0 wr)/\Hid (EM g E (g.top+1) left (l.drop j) P m=(C',m'))) (fun _ ii _=>l.length-(intOf ii).toNat)
 case atStart=>exact⟨0,C,false,A0 _,rfl,rfl,bd,Hd (Aj.refl _ _),HR⟩
 case round=>
  obtain⟨j,P,m,hj,rfl,rfl,aj,a7,a1⟩:=hrel;by_cases bl:j<l.length
  ·have ab:=eG bl
   generalize l[j]=x at ab;have b9:=HX x (mG ab);have b3:=IH ab;rw[b3]at a1;have ax:=Hd (U.next a7);obtain⟨b,off,rfl,bp,bn⟩:∃b off,A=nJ ⟨b,off,nK⟩/\b<wr.heap.size/\nQ wr ⟨b,off+j,nK⟩=nJ (nE nM x):=by
    obtain⟨⟨A',c',e,hc⟩,-,-⟩:=az wr ax;cases e
    exact hc j x ab
   obtain⟨q0,q1,-,-,q4⟩:=(a0 wr ax).cells;obtain⟨r0,r1⟩:=an wr a7;have af:Hid (∀y,() 237 #[.agg #[g.nt,g.top],x] y (BF y (g.BK x))):=Hd (fun y=>WU y g.nt g.top x);clear ab b3;cases a2:g.BK x with
   | false=>
    rw[a2]at af;have T:Hid (EM g E (g.top+1) left (l.drop (j+1)) P m=(C',m')):=Hd (by have:=a1.out;rw[EM,if_neg (by simp[a2])]at this;exact this);clear a1 a2;go_wp2_with (go_at_call 237;refine(af _).mono ?_;rintro e w1 ⟨rfl,a8⟩;have a6:=Hd a8;clear a8)
    go_roundw
    case rel=>exact⟨j+1,P,m,mR,mY,rfl,Hd (aj.later a6),Hd (a7.next (Aj.AJ a6)),T⟩
    case measure=>simp[intOf];omega
   | true=>
    rw[a2]at af;obtain⟨p,hp⟩:∃p,F.P[g.top+1+x]?=nJ p:=⟨_,eG mR⟩
    obtain⟨pl,b5⟩:∃p,F.P[g.top+1+left]?=nJ p:=⟨_,eG mR⟩
    have R:=Hd hp;have al:=Hd b5;obtain⟨sa,b7⟩:∃sa,(if c=j+1 then nJ (⟨b,off,nK⟩:Addr) else nJ ⟨b,off+(j+1),nK⟩)=sa:=⟨_,rfl⟩
    have be:Hid (∀y,Aj (XP F.P) w y->BA y (g.nt+1) F.P P->() 216 #[(F.q,0),(p.h,0),nC sa (l.length-(j+1)) (c-(j+1))] y (Ox y (g.nt+1) F.P p (DC E (g.top+1+x) (l.drop (j+1)) P false))):=Hd (fun y i bj=>OL (a0 y i) bj (List.prefix_refl _) R (bf p (mG R)) (by have:=(az y i).cut (j+1) mR;rwa [b7]at this) (fun z hz=>HX z (List.mem_of_mem_drop hz)))
    have HS:Hid (∀y,Aj (XP F.P) W0 y->nQ y (F.q,4)=nJ (nC (I,0) (g.top+1) a5)/\nQ y (I,x)=nJ (nF (p.h,0))/\nQ y (w,1)=nJ (nC (nJ ⟨b,off,nK⟩) l.length c)):=Hd (fun y i=>by obtain⟨-,-,-,-,z4⟩:=(a0 y (U.next i)).cells;rw[aa]at z4;exact⟨z4,(a0 y (U.next i)).M4 aa R b9,(an y i).2⟩)
    have ar:Hid (∀y,Aj (XP F.P) W0 y->nQ y (F.q,4)=nJ (nC (I,0) (g.top+1) a5)/\nQ y (I,x)=nJ (nF (p.h,0))/\nQ y (I,left)=nJ (nF (pl.h,0))/\nQ y (w,0)=nJ (nE nM left)):=Hd (fun y i=>by obtain⟨-,-,-,-,z4⟩:=(a0 y (U.next i)).cells;rw[aa]at z4;exact⟨z4,(a0 y (U.next i)).M4 aa R b9,(a0 y (U.next i)).M4 aa al bk,(an y i).1⟩)
    have aq:Hid (∀o J,DC E (g.top+1+x) (l.drop (j+1)) P false=(o,J,true)->EM g E (g.top+1) left (l.drop (j+1)) (o.set (g.top+1+x) (o.getD (g.top+1+x) 0|||o.getD (g.top+1+left) 0)) (m||((o.getD (g.top+1+x) 0|||o.getD (g.top+1+left) 0) != o.getD (g.top+1+x) 0||J))=(C',m')):=Hd (fun o J h1=>by have:=a1.out;rw[EM,if_pos a2,h1]at this;exact this);have ao:Hid (∀o J,DC E (g.top+1+x) (l.drop (j+1)) P false=(o,J,false)->EM g E (g.top+1) left (l.drop (j+1)) o (m||J)=(C',m')):=Hd (fun o J h1=>by have:=a1.out;rw[EM,if_pos a2,h1]at this;exact this)
    clear a1 a2 hp b5;generalize DC E (g.top+1+x) (l.drop (j+1)) P false=R1 at *;obtain⟨o,J,b1⟩:=R1;go_upto_region 6 with(go_at_call 237;refine(af _).mono ?_;rintro e w1 ⟨rfl,a8⟩;have a6:=Hd a8;clear a8 q0 q1 q4 r0 r1)
    have ad:=Hd (a7.next (Aj.AJ a6));have bb:=Hd (aj.later a6);obtain⟨s0,s1,s2⟩:=HS w1 ad;have i1:(0:Int)<=(x:Int):=by omega
    have bt:x<g.top+1:=by omega
    have i3:(0:Int)<=(j:Int)+1:=by omega
    have i4:(j:Int)+1<=(l.length:Int):=by omega
    have i5:(l.length:Int)<=(c:Int):=by omega
    have i6:IntKind.i64.wrap ((j:Int)+1)=(j:Int)+1:=by rw[IntKind.wrap_i64];omega
    generalize b8:g.top+1=t at *;have au:=Hd b8;have i2:(x:Int)<(t:Int):=by omega
    clear b8;have ag:Hid (∀y,Below w1 w1 y->nQ y (F.q,4)=nJ (nC (I,0) t a5)/\nQ y (I,x)=nJ (nF (p.h,0))/\nQ y (w,1)=nJ (nC (nJ ⟨b,off,nK⟩) l.length c)):=Hd (fun y i=>HS y (ad.next (Aj.AJ i)));have ay:Hid (∀y,Below w1 w1 y->() 216 #[(F.q,0),(p.h,0),nC sa (l.length-(j+1)) (c-(j+1))] y fun e w'=>e=nP (.tuple #[nI J,nI b1])/\BA w' (g.nt+1) F.P o/\Aj (XP F.P) W0 w'):=Hd (fun y i=>by refine(be y (U.next (ad.next (Aj.AJ i))) (bb.later i)).mono ?_;rintro e w' ⟨he,h1,h2⟩;exact⟨he,h1,(ad.next (Aj.AJ i)).next (h2.one (mG R))⟩)
    go_region_held3 (fun y=>nQ y (F.q,4)=nJ (nC (I,0) t a5)/\nQ y (I,x)=nJ (nF (p.h,0))/\nQ y (w,1)=nJ (nC (nJ ⟨b,off,nK⟩) l.length c))
     (first|exact ag _ ⟨rfl,rfl,rfl,AF _,fun _ _=>rfl⟩|exact HK _ ⟨rfl,rfl,rfl,AF _,fun _ _=>rfl⟩)
     (first|(go_at_call 216;refine(ay w1.drew ⟨rfl,rfl,rfl,AF _,fun _ _=>rfl⟩).mono ?_;rintro e w2 ⟨rfl,b4,av⟩;have ae:=Hd b4;have a3:=Hd av;have HK:=Hd (fun(y:nS) (i:Below w2 w2 y)=>HS y (av.next (Aj.AJ i)));clear b4 av))
    clear ag ay HK b7 s0 s1 s2 i3 i4 i5 i6;cases b1 with
    | false=>
     have T:=Hd (ao o J rfl);rw[<-au.out]at T;clear aq ao;cases m<;>cases J
     all_goals go_wp2_with fail
     all_goals go_roundw
     all_goals first
      | exact⟨j+1,o,false,mR,mY,rfl,ae,a3,T⟩
      | exact⟨j+1,o,true,mR,mY,rfl,ae,a3,T⟩
      | (simp[intOf];omega)
    | true=>
     have T:=Hd (aq o J rfl);have b0:Hid (∀y,Aj (XP F.P) W0 y->BA y (g.nt+1) F.P o->() 197 #[(p.h,0),(pl.h,0)] y fun e w'=>e=nP (nI (o.getD (t+x) 0|||o.getD (t+left) 0 != o.getD (t+x) 0))/\BA w' (g.nt+1) F.P (o.set (t+x) (o.getD (t+x) 0|||o.getD (t+left) 0))/\Aj (XP F.P) W0 w'):=Hd (fun y hc i=>by
      refine(G7 (i.at_ _ p R) (i.at_ _ pl al) ?_).mono ?_
      ·rw[i.room p (mG R),i.room pl (mG al)]
      ·rintro e w' ⟨he,h1,h2⟩
       exact⟨he,i.EL R h1 h2,hc.next (h2.one (mG R))⟩)
     clear aq ao;generalize (o.getD (t+x) 0|||o.getD (t+left) 0 != o.getD (t+x) 0)=b2 at *;generalize o.set (t+x) (o.getD (t+x) 0|||o.getD (t+left) 0)=C2 at *;obtain⟨s0,s1,s2,s3⟩:=ar w2 a3;have i7:(left:Int)<(t:Int):=by have:=au.out;omega
     have i8:(0:Int)<=(left:Int):=by omega
     rw[<-au.out]at T;cases b2
     ·go_upto_region 8 with fail
      have ag:Hid (∀y,Below w2 w2 y->nQ y (F.q,4)=nJ (nC (I,0) t a5)/\nQ y (I,x)=nJ (nF (p.h,0))/\nQ y (I,left)=nJ (nF (pl.h,0))/\nQ y (w,0)=nJ (nE nM left)):=Hd (fun y i=>ar y (a3.next (Aj.AJ i)));have ak:=Hd (b0 w2.drew a3.drew (ae.later ⟨rfl,rfl,rfl,AF _,fun _ _=>rfl⟩))
      go_region_held3 (fun y=>nQ y (F.q,4)=nJ (nC (I,0) t a5)/\nQ y (I,x)=nJ (nF (p.h,0))/\nQ y (I,left)=nJ (nF (pl.h,0))/\nQ y (w,0)=nJ (nE nM left))
       (first|exact ag _ ⟨rfl,rfl,rfl,AF _,fun _ _=>rfl⟩|exact HK _ ⟨rfl,rfl,rfl,AF _,fun _ _=>rfl⟩)
       (first|(go_at_call 197;refine ak.mono ?_;rintro e w3 ⟨rfl,a9,a4⟩;have ai:=Hd a9;have ah:=Hd a4;have HK:=Hd (fun(y:nS) (i:Below w3 w3 y)=>ar y (a4.next (Aj.AJ i)));clear a9 a4))
      cases m<;>(
      go_wp2_with fail
      go_roundw
      all_goals first
       | exact⟨j+1,C2,_,mR,mY,rfl,ai,ah,T⟩
       | (simp[intOf];omega))
     ·go_upto_region 8 with fail
      have ak:=Hd (b0 w2.drew a3.drew (ae.later ⟨rfl,rfl,rfl,AF _,fun _ _=>rfl⟩));first
       | (go_region_law (first|(go_simp;go_at_call 197;refine ak.mono ?_;rintro e w3 ⟨rfl,a9,a4⟩;have ai:=Hd a9;have ah:=Hd a4;clear a9 a4)))
       | fail
      all_goals (
       cases m<;>(
       go_wp2_with fail
       go_roundw
       all_goals first
        | exact⟨j+1,C2,_,mR,mY,rfl,ai,ah,T⟩
        | (simp[intOf];omega)))
  ·obtain rfl:j=l.length:=by omega
   have e:=a1.out;rw[List.drop_length,EM]at e;cases e
   go_wp2_with fail
   go_ret;exact⟨rfl,aj,U.next a7⟩
structure BB(w0 wr:nS)(F:Fs)(g:Gz)(E:Nat)(C:List Nat):Prop where
 at_:Dw wr F g E
 AP:BA wr (g.nt+1) F.P C
 ne:∀p∈F.P,F.e.wb≠p.wb
 new:w0.heap.size<=F.q/\w0.heap.size<=F.e.h/\w0.heap.size<=F.e.wb/\∀p∈F.P,w0.heap.size<=p.h/\w0.heap.size<=p.wb
 below:Below w0 w0 wr
variable{F:Fs}{g:Gz}{E:Nat}{C:List Nat}
def BB.later{w:nS}(h:BB j w F g E C)(i:Below w w w'):BB j w' F g E C:=
 ⟨h.at_.later i,h.AP.later i,h.ne,h.new,h.below.trans (i.mono h.below.size)⟩
def BB.EL{l w:nS}{i:List Nat}(h:BB l w F g E C)(j:Aj (XP F.P) w w')(o:BA w' (g.nt+1) F.P i):BB l w' F g E i:=
 ⟨h.at_.Su h.AP j h.ne,o,h.ne,h.new,h.below.trans (j.below h.below.size (fun k J I=>by obtain⟨p,t,rfl⟩:=I;have:=(h.new.2.2.2 p t).2;omega))⟩
def BB.empty{t w:nS}{l:Nat}(h:BB t w F g E C)(i:Aj F.e.X w w')(J:AU w' F.e l):BB t w' F g l C:=by
 refine⟨⟨i.Ap h.at_.Ap ?_,J,h.at_.en,h.at_.Ii,i.own h.at_.bv ?_,i.own h.at_.hv ?_,h.at_.top⟩,h.AP.Ay i ?_,h.ne,h.new,h.below.trans (i.below h.below.size ?_)⟩
 ·exact Ah.Bh h.at_.Ap h.at_.e.words mT
 ·exact fun k j e=>DL h.at_.bv h.at_.e.words mT (by rw[j,show k=F.e.wb from e])
 ·exact fun k j e=>DL h.at_.hv h.at_.e.words mT (by rw[j,show k=F.e.wb from e])
 ·intro p o
  obtain⟨S,I⟩:=h.AP.mem o;exact⟨I.head_ne h.at_.e,fun e=>h.ne p o (show F.e.wb=p.wb from e.symm)⟩
 ·intro k j e
  have:=h.new.2.2.1;have P:k=F.e.wb:=e;omega
def BA.append{w:nS}{n:Nat}{P Q:List AH}{D:List Nat}(h:BA w n P C)(k:BA w n Q D)(t:∀p∈P,∀q∈Q,p.wb≠q.wb):BA w n (P++Q) (C++D):=by
 refine⟨by simp[h.len,k.len],?_,?_,?_⟩
 ·intro p j
  rcases mA.1 j with j|j
  ·exact h.room p j
  ·exact k.room p j
 ·intro i p j
  by_cases l:i<P.length
  ·rw[gL l]at j
   rw[dG,gL (by rw[<-h.len];exact l),<-dG];exact h.at_ i p j
  ·rw[List.getElem?_append_right mR]at j
   rw[dG,List.getElem?_append_right (by rw[<-h.len];omega),<-dG,<-h.len];exact k.at_ _ p j
 ·rw[Bz,List.nodup_append]
  refine⟨h.apart,k.apart,?_⟩;intro a ha b o;obtain⟨p,j,rfl⟩:=List.mem_map.1 ha;obtain⟨q,I,rfl⟩:=List.mem_map.1 o;exact t p j q I
structure JW(a b:Nat)(w:nS)(n k:Nat)(o:nU)(P:List AH):Prop where
 row:∃A c,o=nC A k c
 len:P.length=k
 pr:Jj w 0 o P
 AP:BA w n P (List.replicate k 0)
 Fb:∀p∈P,(a<=p.h/\p.h<b)/\(a<=p.wb/\p.wb<b)
variable{w:nS}{o:nU}{b:Nat}
def LF.at_{wr:nS}{n k:Nat}(h:LF w n k o wr):∃P,JW w.heap.size wr.heap.size wr n k o P:=by obtain⟨A,c,P,rfl,t,C,j,l⟩:=h.row;exact⟨P,⟨_,_,rfl⟩,t,DW C (A0 _),j,fun p i=>⟨⟨(l p i).1,(j.lt i).1⟩,(l p i).2,(j.lt i).2⟩⟩
def JW.later{a:Nat}{n k:Nat}{P:List AH}(h:JW a b w n k o P)(i:Below w w w'):JW a b w' n k o P:=
 ⟨h.row,h.len,AV h.pr i,h.AP.later i,h.Fb⟩
def BB.make{t:nS}{e:AH}{R U:nU}{q C J I P:Nat}{P1 P2:List AH}(a0:Ah t q 328 #[g.nt,g.top,e.v,R,U])(he:AU t e 0)(a1:e.n=g.top+1)(ht:g.top<=1000)
  (l:JW C J t (g.nt+1) (g.top+1) R P1) (o:JW I P t (g.nt+1) (g.top+1) U P2) (hb:Below j j t) (a3:J<=I\/P<=C) (a4:e.wb<C\/J<=e.wb) (a5:e.wb<I\/P<=e.wb)
  (n1:j.heap.size<=q/\j.heap.size<=e.h/\j.heap.size<=e.wb/\j.heap.size<=C/\j.heap.size<=I):BB j t ⟨q,e,P1++P2,R,U⟩ g 0 (List.replicate (2*(g.top+1)) 0):=by
 have T:=l.len;have a2:=o.len;refine⟨⟨a0,he,a1,by simp[T,a2];omega,?_,?_,ht⟩,?_,?_,⟨n1.1,n1.2.1,n1.2.2.1,?_⟩,hb⟩
 ·simp only
  rw[List.take_left' T];exact l.pr
 ·simp only
  rw[List.drop_left' T];exact o.pr
 ·rw[show 2*(g.top+1)=(g.top+1)+(g.top+1) by omega,<-List.replicate_append_replicate]
  refine l.AP.append o.AP ?_;intro p i r hr;have x1:=(l.Fb p i).2;have x2:=(o.Fb r hr).2;omega
 ·intro p i
  rcases mA.1 i with i|i
  ·have:=(l.Fb p i).2
   simp only;omega
  ·have:=(o.Fb p i).2
   simp only;omega
 ·intro p i
  rcases mA.1 i with i|i
  ·have:=l.Fb p i
   omega
  ·have:=o.Fb p i
   omega
def XS(F:Fs)(b:Nat):Prop:=b=F.e.wb\/XP F.P b
def BB.no{I:nS}(h:BB I w F g E C){t:TypeId}{cs:Array nU}(i:Ah w b t cs)(j:t≠291):¬XS F b:=by
 rintro(rfl|⟨p,o,rfl⟩)
 ·exact Ah.Bh i h.at_.e.words j rfl
 ·obtain⟨S,l⟩:=h.AP.mem o
  exact Ah.Bh i l.words j rfl
def BB.cell{R:nS}(h:BB R w F g E C)(I:Aj (XS F) w w'){o:Nat}(t:b<w.heap.size)(i:nQ w (b,o)=nJ v)(j:∀z,v ≠ nE .u64 z):w'.cell? (b,o)=nJ v:=by
 have P:¬XS F b:=by
  rintro(rfl|⟨p,J,rfl⟩)
  ·exact OA h.at_.e i j rfl
  ·obtain⟨S,l⟩:=h.AP.mem J
   exact OA l i j rfl
 rw[World.cell?_of_block (w:=w) (I.block b t P)];exact i
def Nk{o:Nat}(h:nQ w (b,o)=nJ v):b<w.heap.size:=World.block_lt_of_cell? w _ h
def BB.put{t:nS}(h:BB t w F g E C){i x:Nat}(o:F.P[i]?=nJ p)(R:x<g.nt+1) :
  () 150 #[(p.h,0),x] w fun e w'=>(∃b,e=nP (nI b))/\BB t w' F g E (C.set i (C.getD i 0|||2 ^ x))/\Aj (XS F) w w':=by
 have l:=mG o;refine(Nt (h.AP.at_ i p o) (by rw[h.AP.room p l];exact R)).mono ?_;rintro e w' ⟨J,P,j⟩;exact⟨⟨_,J⟩,h.EL (j.one l) (h.AP.EL o P j),(j.one l).mono fun b I=>.inr I⟩
def BB.jE(h:BB j w F g E C){x:Nat}(t:x<=g.top) :
  () 150 #[(F.e.h,0),x] w fun e w'=>e=nP (nI (!E.testBit x))/\BB j w' F g (E|||2 ^ x) C/\Aj (XS F) w w':=by
 refine(Nt h.at_.e (i:=x) (by rw[h.at_.en];omega)).mono ?_;rintro e w' ⟨o,p,i⟩;exact⟨o,h.empty i p,i.mono fun b l=>.inl l⟩
def BB.line{J:nS}(h:BB J w F g E C){i:Nat}(t:F.P[i]?=nJ p){I:nU}(U:Bv w I l)(hx:∀x∈l,x<=g.top) :
  () 216 #[(F.q,0),(p.h,0),I] w fun e w'=>e=nP (.tuple #[nI (DC E i l C false).2.1,nI (DC E i l C false).2.2])/\BB J w' F g E (DC E i l C false).1/\Aj (XS F) w w':=by
 have j:=mG t;refine(OL h.at_ h.AP (List.prefix_refl _) t (h.ne p j) U hx).mono ?_;rintro e w' ⟨R,T,o⟩;exact⟨R,h.EL (o.one j) T,(o.one j).mono fun b P=>.inr P⟩
def BB.AX(h:BB j w F g E C)(I:Bv w rv l)(P:∀x∈l,x<=g.top)(J:left<=g.top) :
  () 217 #[(F.q,0),.agg #[left,rv]] w fun e w'=>e=nP (nI (EM g E (g.top+1) left l C false).2)/\BB j w' F g E (EM g E (g.top+1) left l C false).1/\Aj (XS F) w w':=by
 refine(Vx h.at_ h.AP h.ne I P J).mono ?_;rintro e w' ⟨p,t,i⟩;exact⟨p,h.EL i t,i.mono fun b o=>.inr o⟩
def Gg(g:Gz)(j:Nat):List Nat:=(List.range (g.top+1)).map (fun x=>if x<j then 2 ^ x else 0)++List.replicate (g.top+1) 0
def Xx(g:Gz):Gg g 0=List.replicate (2*(g.top+1)) 0:=by
 unfold Gg;have e:List.replicate (2*(g.top+1)) 0=List.replicate (g.top+1) 0++List.replicate (g.top+1) 0:=by rw[List.replicate_append_replicate];congr 1;omega
 rw[e];congr 1;refine List.eq_replicate_iff.2 ⟨mV,?_⟩;intro b i;obtain⟨x,j,rfl⟩:=List.mem_map.1 i;rw[if_neg (Nat.not_lt_zero _)]
def Yk(g:Gz):Gg g (g.nt+1)=JT g:=by
 unfold Gg JT;congr 1;apply List.map_congr_left;intro x i;by_cases h:x<=g.nt
 ·rw[if_pos mR,if_pos h]
 ·rw[if_neg mR,if_neg h]
def W4{j:Nat}(C:j<=g.top):(Gg g j).set j ((Gg g j).getD j 0|||2 ^ j)=Gg g (j+1):=by
 have e:(Gg g j).getD j 0=0:=by unfold Gg;rw[dG,gL mX,pG,List.getElem?_range mR];simp
 rw[e,Nat.zero_or];unfold Gg;rw[List.set_append_left _ _ mX];congr 1;apply List.ext_getElem
 ·simp
 ·intro i p t
  rw[List.getElem_set];simp only[List.getElem_map,List.getElem_range];split
  ·rename_i l
   rw[if_pos mR,l]
  ·rename_i l
   by_cases o:i<j
   ·rw[if_pos o,if_pos mR]
   ·rw[if_neg o,if_neg mR]
def Y5{w0 i:nS}(h:BB w0 w F g E C){t:AH}(j:Below w w i)(ht:AU i t 0)(hn:t.n=g.nt+1)(a0:w.heap.size<=t.wb){J:nU}(hl:Bv i J l)(I:∀x∈l,x<=g.top)(a2:F.P.length=C.length) :
  () 216 #[(F.q,0),(t.h,0),J] i fun e w'=>(∃m,e=nP (.tuple #[nI m,nI (Dm E C l 0).2]))/\AU w' t (Dm E C l 0).1/\Aj t.X i w':=by
 have T:=(h.AP.push j ht hn a0)
 have a4:=h.at_.Ii;have p:(F.P++[t])[C.length]?=nJ t:=by rw[<-a2];simp
 have a1:F.e.wb≠t.wb:=by have:=h.at_.e.words.lt;omega
 have o:=OL (h.at_.later j) T ⟨[t],rfl⟩ p a1 hl I;obtain⟨m',hm⟩:=Rg (E:=E) (C:=C) l 0 false (fun x a3=>by have:=I x a3;omega);rw[hm]at o;refine o.mono ?_;rintro e w' ⟨R,U,P⟩;refine⟨⟨m',R⟩,?_,P⟩;have:=U.at_ C.length t p;simpa using this
def Yz{w0:nS}(h:BB w0 w F g E C){t:nU}(p:Bv w t l)(hx:∀x∈l,x<=g.top)(a4:g.nt<=120) :
  () 189 #[(F.q,0),t] w fun e w'=>∃A c,e=nP (.tuple #[nC A (Bq (g.nt+1) (Dm E C l 0).1).length c,nI (Dm E C l 0).2])/\Bv w' (nC A (Bq (g.nt+1) (Dm E C l 0).1).length c) (Bq (g.nt+1) (Dm E C l 0).1)/\Below w w w':=by
 have HS:=Hd h;have a0:Hid (() 192 #[nE nM ((g.nt:Int)+1)] w fun e w'=>e=nP (w.heap.size+1,0)/\AU w' ⟨w.heap.size+1,w.heap.size,g.nt+1⟩ 0/\Below w w w'):=Hd (LU (w:=w) (n:=g.nt+1) mR mR);have U:Hid (∀o,Below w w o->AU o ⟨w.heap.size+1,w.heap.size,g.nt+1⟩ 0->() 216 #[(F.q,0),(w.heap.size+1,0),t] o fun e w'=>(∃m,e=nP (.tuple #[nI m,nI (Dm E C l 0).2]))/\AU w' ⟨w.heap.size+1,w.heap.size,g.nt+1⟩ (Dm E C l 0).1/\Below w w w'):=Hd (fun o i ht=>by refine(Y5 h i ht rfl (AF _) (p.later i) hx h.AP.len).mono ?_;rintro e w' ⟨he,j,hc⟩;exact⟨he,j,i.trans (hc.below i.size (fun k hk e=>by have e2:k=w.heap.size:=e;omega))⟩)
 obtain⟨q0,-,-,-,-⟩:=h.at_.cells;have a3:=Le (g.nt+1) (Dm E C l 0).1;obtain⟨⟨Al,cl,rfl,-⟩,-,-⟩:=id p;clear h p;go_enter Tryz.func189,Tryz.ntmps189
 go_wp2_with (first
  | (
   go_at_call 192;refine a0.mono ?_;rintro e o ⟨rfl,j,i⟩
   have a1:=Hd j;have R:=Hd i;clear j i)
  | (
   go_at_call 216;refine(U _ R a1).mono ?_;rintro e w2 ⟨⟨m,rfl⟩,j,i⟩
   have a2:=Hd j;have I:=Hd i;clear j i)
  | (
   go_at_call 199;refine(PV a2).mono ?_;rintro e w3 ⟨a5,rfl,A,c,rfl,J,i⟩
   have HR:=Hd J;have T:=Hd (I.trans (i.mono I.size));clear J i))
 go_ret2
 have P:=HR.out;simp only[lM]at P;refine⟨A,c,mV,G4 P mR,T⟩
def Text(w:nS)(s:ByteArray)(e:Ending)(w':nS):Prop:=e=nP (.string s)/\Below w w w'
def Zr{g:Gm}{s:Int}(h:g.term s=true):1<=s/\∃k:Nat,s=(k:Int)+1/\k<g.T.length/\∃x,g.T[k]?=nJ x/\g.name s=x:=by unfold Gm.term at h;rw[Bool.and_eq_true,decide_eq_true_eq,decide_eq_true_eq]at h;refine⟨h.1,(s-1).toNat,mR,mR,g.T[(s-1).toNat]'(by omega),eG _,?_⟩;unfold Gm.name;rw[if_neg mR,if_neg mR,dG,gL mR,eG mR];rfl
def fH{g:Gm}{s:Int}(h:g.BK s=true):∃k:Nat,s=(g.T.length:Int)+k+1/\k<g.N.length/\∃x,g.N[k]?=nJ x/\g.name s=x:=by
 unfold Gm.BK at h;rw[Bool.and_eq_true,decide_eq_true_eq,decide_eq_true_eq]at h;refine⟨(s-1-g.T.length).toNat,mR,mR,g.N[(s-1-g.T.length).toNat]'(by omega),eG _,?_⟩;unfold Gm.name;have e:(s-1).toNat=g.T.length+(s-1-g.T.length).toNat:=by omega
 rw[if_neg mR,if_neg mR,dG,List.getElem?_append_right mR,e,Nat.add_sub_cancel_left,eG mR];rfl
def Y3{g:Gm}{s:Int}(h0:s≠0)(i:g.term s=false)(j:g.BK s=false):g.name s=⟨#[]⟩:=by unfold Gm.term at i;unfold Gm.BK at j;rw[Bool.and_eq_false_iff,decide_eq_false_iff_not,decide_eq_false_iff_not]at i j;unfold Gm.name;rw[if_neg h0,if_pos mR]
def mf(g:Gm):g.name 0=⟨#[36]⟩:=by unfold Gm.name;rw[if_pos rfl]
def dM{g:Gm}(h:Ei w v g)(s:Int)(hs : -9223372036854775808<=s):() 23 #[v,s] w (Text w (g.name s)):=by
 have ab:=h.small.2.2.1;have aa:=h.small.2.2.2.1;have t:=Hd (fun y (hy:Below w w y)=>Pc (h.later hy) s);have p:=Hd (fun y (hy:Below w w y)=>Lu (h.later hy) s);have HG:=Hd (Ek.new w 58 v);obtain⟨AT,cT,AN,cN,AR,cR,rfl,hT,hN,hR⟩:=h.open_;obtain⟨⟨A1,c1,e1,a4⟩,_⟩:=hT;cases e1
 obtain⟨⟨A2,c2,e2,a5⟩,_⟩:=hN;cases e2
 have a6:=Hd a4;have a7:=Hd a5;have J:=Hd (@Zr g s);have P:=Hd (@fH g s);have R:=Hd (@Y3 g s);clear h hR a4 a5;by_cases h0:s=0
 ·subst h0
  rw[mf];clear J P R t p;generalize g.T.length=nT at *;generalize g.N.length=nN at *;go_enter Tryz.func23,Tryz.ntmps23
  go_wp2;go_ret;exact⟨rfl,AE _ _⟩
 have ad:(s==0)=false:=by simpa using h0
 cases o:g.term s with
 | true=>
  rw[o]at t;obtain⟨hp,k,hk,a8,x,hx,a0⟩:=J o;rw[a0];obtain⟨b,off,hA,a3,l⟩:=a6 k x hx;subst hA;simp only[Cc]at l;clear J P R p o hx a0;generalize g.T.length=nT at *;generalize g.N.length=nN at *;generalize g.R.length=nR at *;have a9:s-1=(k:Int):=by omega
  clear hk hp;go_enter Tryz.func23,Tryz.ntmps23
  go_wp2_with fail
  refine(t _ (AE w _)).mono ?_;rintro e w1 ⟨rfl,i⟩;have j:=Hd (Et i);obtain⟨T,U,d2,d3⟩:=(HG.later i).four;have e1:=(j.cell (p:=(b,off+k)) a3).trans l;clear i l;go_wp2;go_ret;exact⟨rfl,j⟩
 | false=>
  rw[o]at t;cases I:g.BK s with
  | true=>
   rw[I]at p;obtain⟨k,hk,a8,x,hx,a0⟩:=P I;rw[a0];obtain⟨b,off,hA,a3,l⟩:=a7 k x hx;subst hA;simp only[Cc]at l;clear J P R o I hx a0;generalize g.T.length=nT at *;generalize g.N.length=nN at *;generalize g.R.length=nR at *;have a9:s-1-(nT:Int)=(k:Int):=by omega
   clear hk;go_enter Tryz.func23,Tryz.ntmps23
   go_wp2_with fail
   refine(t _ (AE w _)).mono ?_;rintro e w1 ⟨rfl,i⟩;have j:=Hd (Et i);have a2:=Hd (HG.later i);obtain⟨T,U,d2,d3⟩:=a2.four;clear i;go_wp2_with fail
   refine(p _ j).mono ?_;rintro e w2 ⟨rfl,C⟩;have a1:=Hd (j.trans (C.mono j.size));clear T U d2 d3;obtain⟨T,U,d2,d3⟩:=(a2.later C).four;have e1:=(a1.cell (p:=(b,off+k)) a3).trans l;clear C l;go_wp2;go_ret;exact⟨rfl,a1⟩
  | false=>
   rw[I]at p;rw[R h0 o I];clear J P R o I;generalize g.T.length=nT at *;generalize g.N.length=nN at *;generalize g.R.length=nR at *;go_enter Tryz.func23,Tryz.ntmps23
   go_wp2_with fail
   refine(t _ (AE w _)).mono ?_;rintro e w1 ⟨rfl,i⟩;have j:=Hd (Et i);have a2:=Hd (HG.later i);obtain⟨T,U,d2,d3⟩:=a2.four;clear i;go_wp2_with fail
   refine(p _ j).mono ?_;rintro e w2 ⟨rfl,C⟩;have a1:=Hd (j.trans (C.mono j.size));clear T U d2 d3 C;go_wp2;go_ret;exact⟨rfl,a1⟩
section
variable {w:nS} {v:nU} {g:Gm}
end
