/- . -/
import Derived.Test.YtendpobbjjaopaaGreatDoorXaf
import Derived.Deep.RegionHeld3
import Derived.Test.YtendpobbjjaopaaGreatDoorXae
import Derived.Deep.RegionLaw
import Derived.BigRegion
import Derived.Test.YtendpobbjjaopaaGreatDoorXnm
set_option linter.all false
set_option maxRecDepth 100000
set_option maxHeartbeats 16000000
namespace Go.Proofs.YtendpobbjjaopaaGreatDoor
open Go.RowKit
open Value renaming slice→oG,int→oH,pointer→oI,bool→oK
open Option renaming some→oM,none→oN
open IntKind renaming i64→oO
open Obj renaming cells→oP
open Ending renaming returned→oQ
open World renaming cell?→oT
open Go renaming World→oU,Value→oV
variable{lv rv v:oV}{p:AH}{j w':oU}{l:List Nat}{left:Nat}
def XP(P:List AH)(b:Nat):Prop:=∃p∈P,b=p.wb
def Om{w:oU}{s:AH}{S b o:Nat}(h:AQ w s S)(j:oT w (b,o)=oM v)(l:∀z,v ≠ oH .u64 z):b≠s.wb:=by rintro rfl;have i:=h.words.cell o;rw[j]at i;unfold CW at i;rw[List.getElem?_toArray,pG]at i;obtain⟨z,_,p⟩:=Option.map_eq_some_iff.1 i.symm;exact l _ p.symm
def BD.mem{w:oU}{n:Nat}{P:List AH}{C:List Nat}(h:BD w n P C)(l:p∈P):∃S,AQ w p S:=by obtain⟨i,j,rfl⟩:=List.mem_iff_getElem.1 l;exact⟨_,h.at_ i _ (eG j)⟩
def BD.cell{w:oU}{n:Nat}{P:List AH}{C:List Nat}(h:BD w n P C)(t:Am (XP P) w w'){b o:Nat}(l:b<w.heap.size)(i:oT w (b,o)=oM v)(I:∀z,v ≠ oH .u64 z):w'.cell? (b,o)=oM v:=by
 have R:¬XP P b:=by rintro⟨p,J,rfl⟩;obtain⟨S,j⟩:=h.mem J;exact Om j i I rfl
 rw[World.cell?_of_block (w:=w) (t.block b l R)];exact i
def BD.cY{w:oU}{n:Nat}{P:List AH}{C:List Nat}(h:BD w n P C)(i:Am (XP P) w w')(I:BF w v l):BF w' v l:=by obtain⟨⟨A,c,T,t⟩,R,J⟩:=I;refine⟨⟨A,c,T,fun k x U=>?_⟩,R,J⟩;obtain⟨b,off,o,j,p⟩:=t k x U;exact⟨b,off,o,A0 j i.size,h.cell i j p (fun z e=>by cases e)⟩
def Dv.Vi{w:oU}{F:Fs}{g:Gz}{E n:Nat}{P:List AH}{C:List Nat}(h:Dv w F g E)(U:BD w n P C)(o:Am (XP P) w w')(a0:∀p∈P,F.e.wb≠p.wb):Dv w' F g E:=by
 have t:∀b,XP P b->∃l,Ah w b 264 l:=fun b i=>by obtain⟨p,J,rfl⟩:=i;obtain⟨S,R⟩:=U.mem J;exact⟨_,R.words⟩
 refine⟨o.Aj h.Aj ?_,h.e.AA o ?_ ?_,h.en,h.Ih,o.own h.bv ?_,o.own h.hv ?_,h.top⟩
 ·intro i
  obtain⟨l,j⟩:=t _ i;exact Ah.Bb h.Aj j nY rfl
 ·intro i
  obtain⟨l,j⟩:=t _ i;exact Ah.Bb h.e.head j nY rfl
 ·rintro⟨p,J,T⟩
  exact a0 p J T
 ·intro k I i
  obtain⟨l,j⟩:=t _ i;exact Du h.bv j nY I
 ·intro k I i
  obtain⟨l,j⟩:=t _ i;exact Du h.hv j nY I
def Am.one{w:oU}{P:List AH}(h:Am p.X w w')(j:p∈P):Am (XP P) w w':=h.mono fun b i=>⟨p,j,i⟩
def BH.drop{o:Type}{E:o->oV}{w:oU}{b off n c:Nat}{l:List o}(h:BH E w (oG (b,off) n c) l)(k:Nat)(U:k<=n):BH E w (oG (b,off+k) (n-k) (c-k)) (l.drop k):=by
 obtain⟨⟨R,c1,P,t⟩,hs,J⟩:=h;have a0:=(J _ _ _ rfl).1;cases P
 refine⟨⟨_,c-k,by rw[List.length_drop],fun i x j=>?_⟩,by rw[List.length_drop];omega,fun _ _ _ e=>by cases e;exact⟨nX,fun e=>by cases e⟩⟩;rw[List.getElem?_drop]at j;obtain⟨T,a1,p,I,C⟩:=t (k+i) x j;cases p
 exact⟨b,off+k,rfl,I,by rw[show off+k+i=off+(k+i) by omega];exact C⟩
def BH.cut{i:Type}{E:i->oV}{w:oU}{b off n c:Nat}{l:List i}(h:BH E w (oG (b,off) n c) l)(k:Nat)(j:k<=n):BH E w (oG (if c=k then oM ⟨b,off,oN⟩ else oM ⟨b,off+k,oN⟩) (n-k) (c-k)) (l.drop k):=by
 have J:=(h.room _ _ _ rfl).1;split
 ·rename_i C
  have I:n=l.length:=by
   obtain⟨⟨t,c1,p,-⟩,-,-⟩:=h;cases p
   rfl
  have o:l.drop k=[]:=List.drop_eq_nil_of_le nX;rw[o,show n-k=0 by omega];exact BH.nil w _ _ (fun e=>by cases e)
 ·exact h.drop k j
def SE(w:oU)(n:Nat)(P:List AH)(r:List Nat×Bool)(e:Ending)(w':oU):Prop:=e=oQ (oK r.2)/\BD w' n P r.1/\Am (XP P) w w'
def mK{w:oU}{F:Fs}{g:Gz}{E:Nat}{C:List Nat}(h:Dv w F g E)(hf:BD w (g.nt+1) F.P C)(aw:∀p∈F.P,F.e.wb≠p.wb)(hl:BF w rv l)(hx:∀x∈l,x<=g.top)(bk:left<=g.top) :
  () 216 #[(F.q,0),.agg #[left,rv]] w (SE w (g.nt+1) F.P (EO g E (g.top+1) left l C false)):=by
 have a0:Hid (∀y,Am (XP F.P) w y->Dv y F g E):=Hd (fun y i=>h.Vi hf i aw);have az:Hid (∀y,Am (XP F.P) w y->BF y rv l):=Hd (fun y i=>hf.cY i hl);have HX:=Hd hx;have ba:=Hd hf;have bf:=Hd aw;have br:=h.top;obtain⟨bg,bc,I,a5,-,aa,-,bo⟩:=h.open_;have bm:=h.Ih;obtain⟨⟨A,c,rfl,-⟩,hs,b6⟩:=id hl;have bq:=(b6 _ _ _ rfl).1;have bh:=Hd (Ah.new w 113 #[left,oG A l.length c]);have U:Hid (Am (XP F.P) w (w.alloc (oP #[left,oG A l.length c] 113))):=Hd ((Am.refl _ w).alloc _);have an:Hid (∀y,Am (XP F.P) (w.alloc (oP #[left,oG A l.length c] 113)) y->oT y (w,0)=oM (oH oO left)/\oT y (w,1)=oM (oG A l.length c)):=Hd (fun y i=>by
  have hb:=i.Aj bh (by rintro⟨p,hp,e⟩;have:=(ba.lt hp).2;omega)
  exact⟨hb.cell 0,hb.cell 1⟩)
 have bd:=Hd (hf.later (AG w (oP #[left,oG A l.length c] 113)));clear hx hf aw h hl b6;unfold SE;generalize hR:EO g E (g.top+1) left l C false=bi;have HR:=Hd hR;clear hR;obtain⟨C',m'⟩:=bi;simp only;go_enter Tryz.func216,Tryz.ntmps216
 go_wp2_with fail
 generalize w.alloc (oP #[left,oG A l.length c] 113)=W0 at *;go_loopw [5,13] (fun mo ii wr=>∃(j:Nat) (P:List Nat) (m:Bool),j<=l.length/\ii=oH oO j/\mo=oK m/\Hid (BD wr (g.nt+1) F.P P)/\Hid (Am (XP F.P) W0 wr)/\Hid (EO g E (g.top+1) left (l.drop j) P m=(C',m'))) (fun _ ii _=>l.length-(intOf ii).toNat)
 case atStart=>exact⟨0,C,false,AX _,rfl,rfl,bd,Hd (Am.refl _ _),HR⟩
 case round=>
  obtain⟨j,P,m,hj,rfl,rfl,aj,a7,a1⟩:=hrel;by_cases bl:j<l.length
  ·have ab:=eG bl
   generalize l[j]=x at ab;have b9:=HX x (mG ab);have b3:=I6 ab;rw[b3]at a1;have ax:=Hd (U.next a7);obtain⟨b,off,rfl,bp,bn⟩:∃b off,A=oM ⟨b,off,oN⟩/\b<wr.heap.size/\oT wr ⟨b,off+j,oN⟩=oM (oH oO x):=by
    obtain⟨⟨A',c',e,hc⟩,-,-⟩:=az wr ax;cases e
    exact hc j x ab
   obtain⟨q0,q1,-,-,q4⟩:=(a0 wr ax).cells;obtain⟨r0,r1⟩:=an wr a7;have af:Hid (∀y,() 232 #[.agg #[g.nt,g.top],x] y (BI y (g.BW x))):=Hd (fun y=>mu y g.nt g.top x);clear ab b3;cases a2:g.BW x with
   | false=>
    rw[a2]at af;have T:Hid (EO g E (g.top+1) left (l.drop (j+1)) P m=(C',m')):=Hd (by have:=a1.out;rw[EO,if_neg (by simp[a2])]at this;exact this);clear a1 a2;go_wp2_with (go_at_call 232;refine(af _).mono ?_;rintro e w1 ⟨rfl,a8⟩;have a6:=Hd a8;clear a8)
    go_roundw
    case rel=>exact⟨j+1,P,m,nX,oD,rfl,Hd (aj.later a6),Hd (a7.next (Am.AJ a6)),T⟩
    case measure=>simp[intOf];omega
   | true=>
    rw[a2]at af;obtain⟨p,hp⟩:∃p,F.P[g.top+1+x]?=oM p:=⟨_,eG nX⟩
    obtain⟨pl,b5⟩:∃p,F.P[g.top+1+left]?=oM p:=⟨_,eG nX⟩
    have R:=Hd hp;have al:=Hd b5;obtain⟨sa,b7⟩:∃sa,(if c=j+1 then oM (⟨b,off,oN⟩:Addr) else oM ⟨b,off+(j+1),oN⟩)=sa:=⟨_,rfl⟩
    have be:Hid (∀y,Am (XP F.P) w y->BD y (g.nt+1) F.P P->() 215 #[(F.q,0),(p.h,0),oG sa (l.length-(j+1)) (c-(j+1))] y (Px y (g.nt+1) F.P p (Dx E (g.top+1+x) (l.drop (j+1)) P false))):=Hd (fun y i bj=>PB (a0 y i) bj (List.prefix_refl _) R (bf p (mG R)) (by have:=(az y i).cut (j+1) nX;rwa [b7]at this) (fun z hz=>HX z (List.mem_of_mem_drop hz)))
    have HS:Hid (∀y,Am (XP F.P) W0 y->oT y (F.q,4)=oM (oG (I,0) (g.top+1) a5)/\oT y (I,x)=oM (oI (p.h,0))/\oT y (w,1)=oM (oG (oM ⟨b,off,oN⟩) l.length c)):=Hd (fun y i=>by obtain⟨-,-,-,-,z4⟩:=(a0 y (U.next i)).cells;rw[aa]at z4;exact⟨z4,(a0 y (U.next i)).Nf aa R b9,(an y i).2⟩)
    have ar:Hid (∀y,Am (XP F.P) W0 y->oT y (F.q,4)=oM (oG (I,0) (g.top+1) a5)/\oT y (I,x)=oM (oI (p.h,0))/\oT y (I,left)=oM (oI (pl.h,0))/\oT y (w,0)=oM (oH oO left)):=Hd (fun y i=>by obtain⟨-,-,-,-,z4⟩:=(a0 y (U.next i)).cells;rw[aa]at z4;exact⟨z4,(a0 y (U.next i)).Nf aa R b9,(a0 y (U.next i)).Nf aa al bk,(an y i).1⟩)
    have aq:Hid (∀o J,Dx E (g.top+1+x) (l.drop (j+1)) P false=(o,J,true)->EO g E (g.top+1) left (l.drop (j+1)) (o.set (g.top+1+x) (o.getD (g.top+1+x) 0|||o.getD (g.top+1+left) 0)) (m||((o.getD (g.top+1+x) 0|||o.getD (g.top+1+left) 0) != o.getD (g.top+1+x) 0||J))=(C',m')):=Hd (fun o J h1=>by have:=a1.out;rw[EO,if_pos a2,h1]at this;exact this);have ao:Hid (∀o J,Dx E (g.top+1+x) (l.drop (j+1)) P false=(o,J,false)->EO g E (g.top+1) left (l.drop (j+1)) o (m||J)=(C',m')):=Hd (fun o J h1=>by have:=a1.out;rw[EO,if_pos a2,h1]at this;exact this)
    clear a1 a2 hp b5;generalize Dx E (g.top+1+x) (l.drop (j+1)) P false=R1 at *;obtain⟨o,J,b1⟩:=R1;go_upto_region 6 with(go_at_call 232;refine(af _).mono ?_;rintro e w1 ⟨rfl,a8⟩;have a6:=Hd a8;clear a8 q0 q1 q4 r0 r1)
    have ad:=Hd (a7.next (Am.AJ a6));have bb:=Hd (aj.later a6);obtain⟨s0,s1,s2⟩:=HS w1 ad;have i1:(0:Int)<=(x:Int):=by omega
    have bt:x<g.top+1:=by omega
    have i3:(0:Int)<=(j:Int)+1:=by omega
    have i4:(j:Int)+1<=(l.length:Int):=by omega
    have i5:(l.length:Int)<=(c:Int):=by omega
    have i6:IntKind.i64.wrap ((j:Int)+1)=(j:Int)+1:=by rw[IntKind.wrap_i64];omega
    generalize b8:g.top+1=t at *;have au:=Hd b8;have i2:(x:Int)<(t:Int):=by omega
    clear b8;have ag:Hid (∀y,Below w1 w1 y->oT y (F.q,4)=oM (oG (I,0) t a5)/\oT y (I,x)=oM (oI (p.h,0))/\oT y (w,1)=oM (oG (oM ⟨b,off,oN⟩) l.length c)):=Hd (fun y i=>HS y (ad.next (Am.AJ i)));have ay:Hid (∀y,Below w1 w1 y->() 215 #[(F.q,0),(p.h,0),oG sa (l.length-(j+1)) (c-(j+1))] y fun e w'=>e=oQ (.tuple #[oK J,oK b1])/\BD w' (g.nt+1) F.P o/\Am (XP F.P) W0 w'):=Hd (fun y i=>by refine(be y (U.next (ad.next (Am.AJ i))) (bb.later i)).mono ?_;rintro e w' ⟨he,h1,h2⟩;exact⟨he,h1,(ad.next (Am.AJ i)).next (h2.one (mG R))⟩)
    go_region_held3 (fun y=>oT y (F.q,4)=oM (oG (I,0) t a5)/\oT y (I,x)=oM (oI (p.h,0))/\oT y (w,1)=oM (oG (oM ⟨b,off,oN⟩) l.length c))
     (first|exact ag _ ⟨rfl,rfl,rfl,Ay _,fun _ _=>rfl⟩|exact HK _ ⟨rfl,rfl,rfl,Ay _,fun _ _=>rfl⟩)
     (first|(go_at_call 215;refine(ay w1.drew ⟨rfl,rfl,rfl,Ay _,fun _ _=>rfl⟩).mono ?_;rintro e w2 ⟨rfl,b4,av⟩;have ae:=Hd b4;have a3:=Hd av;have HK:=Hd (fun(y:oU) (i:Below w2 w2 y)=>HS y (av.next (Am.AJ i)));clear b4 av))
    clear ag ay HK b7 s0 s1 s2 i3 i4 i5 i6;cases b1 with
    | false=>
     have T:=Hd (ao o J rfl);rw[<-au.out]at T;clear aq ao;cases m<;>cases J
     all_goals go_wp2_with fail
     all_goals go_roundw
     all_goals first
      | exact⟨j+1,o,false,nX,oD,rfl,ae,a3,T⟩
      | exact⟨j+1,o,true,nX,oD,rfl,ae,a3,T⟩
      | (simp[intOf];omega)
    | true=>
     have T:=Hd (aq o J rfl);have b0:Hid (∀y,Am (XP F.P) W0 y->BD y (g.nt+1) F.P o->() 189 #[(p.h,0),(pl.h,0)] y fun e w'=>e=oQ (oK (o.getD (t+x) 0|||o.getD (t+left) 0 != o.getD (t+x) 0))/\BD w' (g.nt+1) F.P (o.set (t+x) (o.getD (t+x) 0|||o.getD (t+left) 0))/\Am (XP F.P) W0 w'):=Hd (fun y hc i=>by
      refine(G8 (i.at_ _ p R) (i.at_ _ pl al) ?_).mono ?_
      ·rw[i.room p (mG R),i.room pl (mG al)]
      ·rintro e w' ⟨he,h1,h2⟩
       exact⟨he,i.E0 R h1 h2,hc.next (h2.one (mG R))⟩)
     clear aq ao;generalize (o.getD (t+x) 0|||o.getD (t+left) 0 != o.getD (t+x) 0)=b2 at *;generalize o.set (t+x) (o.getD (t+x) 0|||o.getD (t+left) 0)=C2 at *;obtain⟨s0,s1,s2,s3⟩:=ar w2 a3;have i7:(left:Int)<(t:Int):=by have:=au.out;omega
     have i8:(0:Int)<=(left:Int):=by omega
     rw[<-au.out]at T;cases b2
     ·go_upto_region 8 with fail
      have ag:Hid (∀y,Below w2 w2 y->oT y (F.q,4)=oM (oG (I,0) t a5)/\oT y (I,x)=oM (oI (p.h,0))/\oT y (I,left)=oM (oI (pl.h,0))/\oT y (w,0)=oM (oH oO left)):=Hd (fun y i=>ar y (a3.next (Am.AJ i)));have ak:=Hd (b0 w2.drew a3.drew (ae.later ⟨rfl,rfl,rfl,Ay _,fun _ _=>rfl⟩))
      go_region_held3 (fun y=>oT y (F.q,4)=oM (oG (I,0) t a5)/\oT y (I,x)=oM (oI (p.h,0))/\oT y (I,left)=oM (oI (pl.h,0))/\oT y (w,0)=oM (oH oO left))
       (first|exact ag _ ⟨rfl,rfl,rfl,Ay _,fun _ _=>rfl⟩|exact HK _ ⟨rfl,rfl,rfl,Ay _,fun _ _=>rfl⟩)
       (first|(go_at_call 189;refine ak.mono ?_;rintro e w3 ⟨rfl,a9,a4⟩;have ai:=Hd a9;have ah:=Hd a4;have HK:=Hd (fun(y:oU) (i:Below w3 w3 y)=>ar y (a4.next (Am.AJ i)));clear a9 a4))
      cases m<;>(
      go_wp2_with fail
      go_roundw
      all_goals first
       | exact⟨j+1,C2,_,nX,oD,rfl,ai,ah,T⟩
       | (simp[intOf];omega))
     ·go_upto_region 8 with fail
      have ak:=Hd (b0 w2.drew a3.drew (ae.later ⟨rfl,rfl,rfl,Ay _,fun _ _=>rfl⟩));first
       | (go_region_law (first|(go_simp;go_at_call 189;refine ak.mono ?_;rintro e w3 ⟨rfl,a9,a4⟩;have ai:=Hd a9;have ah:=Hd a4;clear a9 a4)))
       | fail
      all_goals (
       cases m<;>(
       go_wp2_with fail
       go_roundw
       all_goals first
        | exact⟨j+1,C2,_,nX,oD,rfl,ai,ah,T⟩
        | (simp[intOf];omega)))
  ·obtain rfl:j=l.length:=by omega
   have e:=a1.out;rw[List.drop_length,EO]at e;cases e
   go_wp2_with fail
   go_ret;exact⟨rfl,aj,U.next a7⟩
structure BC(w0 wr:oU)(F:Fs)(g:Gz)(E:Nat)(C:List Nat):Prop where
 at_:Dv wr F g E
 AM:BD wr (g.nt+1) F.P C
 ne:∀p∈F.P,F.e.wb≠p.wb
 new:w0.heap.size<=F.q/\w0.heap.size<=F.e.h/\w0.heap.size<=F.e.wb/\∀p∈F.P,w0.heap.size<=p.h/\w0.heap.size<=p.wb
 below:Below w0 w0 wr
variable{F:Fs}{g:Gz}{E:Nat}{C:List Nat}
def BC.later{w:oU}(h:BC j w F g E C)(i:Below w w w'):BC j w' F g E C:=
 ⟨h.at_.later i,h.AM.later i,h.ne,h.new,h.below.trans (i.mono h.below.size)⟩
def BC.E0{l w:oU}{i:List Nat}(h:BC l w F g E C)(j:Am (XP F.P) w w')(o:BD w' (g.nt+1) F.P i):BC l w' F g E i:=
 ⟨h.at_.Vi h.AM j h.ne,o,h.ne,h.new,h.below.trans (j.below h.below.size (fun k J I=>by obtain⟨p,t,rfl⟩:=I;have:=(h.new.2.2.2 p t).2;omega))⟩
def BC.empty{t w:oU}{l:Nat}(h:BC t w F g E C)(i:Am F.e.X w w')(J:AQ w' F.e l):BC t w' F g l C:=by
 refine⟨⟨i.Aj h.at_.Aj ?_,J,h.at_.en,h.at_.Ih,i.own h.at_.bv ?_,i.own h.at_.hv ?_,h.at_.top⟩,h.AM.AA i ?_,h.ne,h.new,h.below.trans (i.below h.below.size ?_)⟩
 ·exact Ah.Bb h.at_.Aj h.at_.e.words nY
 ·exact fun k j e=>Du h.at_.bv h.at_.e.words nY (by rw[j,show k=F.e.wb from e])
 ·exact fun k j e=>Du h.at_.hv h.at_.e.words nY (by rw[j,show k=F.e.wb from e])
 ·intro p o
  obtain⟨S,I⟩:=h.AM.mem o;exact⟨I.head_ne h.at_.e,fun e=>h.ne p o (show F.e.wb=p.wb from e.symm)⟩
 ·intro k j e
  have:=h.new.2.2.1;have P:k=F.e.wb:=e;omega
def BD.append{w:oU}{n:Nat}{P Q:List AH}{D:List Nat}(h:BD w n P C)(k:BD w n Q D)(t:∀p∈P,∀q∈Q,p.wb≠q.wb):BD w n (P++Q) (C++D):=by
 refine⟨by simp[h.len,k.len],?_,?_,?_⟩
 ·intro p j
  rcases mA.1 j with j|j
  ·exact h.room p j
  ·exact k.room p j
 ·intro i p j
  by_cases l:i<P.length
  ·rw[gL l]at j
   rw[dG,gL (by rw[<-h.len];exact l),<-dG];exact h.at_ i p j
  ·rw[List.getElem?_append_right nX]at j
   rw[dG,List.getElem?_append_right (by rw[<-h.len];omega),<-dG,<-h.len];exact k.at_ _ p j
 ·rw[BB,List.nodup_append]
  refine⟨h.apart,k.apart,?_⟩;intro a ha b o;obtain⟨p,j,rfl⟩:=List.mem_map.1 ha;obtain⟨q,I,rfl⟩:=List.mem_map.1 o;exact t p j q I
structure JS(a b:Nat)(w:oU)(n k:Nat)(o:oV)(P:List AH):Prop where
 row:∃A c,o=oG A k c
 len:P.length=k
 pr:JC w 0 o P
 AM:BD w n P (List.replicate k 0)
 Fi:∀p∈P,(a<=p.h/\p.h<b)/\(a<=p.wb/\p.wb<b)
variable{w:oU}{o:oV}{b:Nat}
def L1.at_{wr:oU}{n k:Nat}(h:L1 w n k o wr):∃P,JS w.heap.size wr.heap.size wr n k o P:=by obtain⟨A,c,P,rfl,t,C,j,l⟩:=h.row;exact⟨P,⟨_,_,rfl⟩,t,EN C (AX _),j,fun p i=>⟨⟨(l p i).1,(j.lt i).1⟩,(l p i).2,(j.lt i).2⟩⟩
def JS.later{a:Nat}{n k:Nat}{P:List AH}(h:JS a b w n k o P)(i:Below w w w'):JS a b w' n k o P:=
 ⟨h.row,h.len,AU h.pr i,h.AM.later i,h.Fi⟩
def BC.make{t:oU}{e:AH}{R U:oV}{q C J I P:Nat}{P1 P2:List AH}(a0:Ah t q 299 #[g.nt,g.top,e.v,R,U])(he:AQ t e 0)(a1:e.n=g.top+1)(ht:g.top<=1000)
  (l:JS C J t (g.nt+1) (g.top+1) R P1) (o:JS I P t (g.nt+1) (g.top+1) U P2) (hb:Below j j t) (a3:J<=I\/P<=C) (a4:e.wb<C\/J<=e.wb) (a5:e.wb<I\/P<=e.wb)
  (n1:j.heap.size<=q/\j.heap.size<=e.h/\j.heap.size<=e.wb/\j.heap.size<=C/\j.heap.size<=I):BC j t ⟨q,e,P1++P2,R,U⟩ g 0 (List.replicate (2*(g.top+1)) 0):=by
 have T:=l.len;have a2:=o.len;refine⟨⟨a0,he,a1,by simp[T,a2];omega,?_,?_,ht⟩,?_,?_,⟨n1.1,n1.2.1,n1.2.2.1,?_⟩,hb⟩
 ·simp only
  rw[List.take_left' T];exact l.pr
 ·simp only
  rw[List.drop_left' T];exact o.pr
 ·rw[show 2*(g.top+1)=(g.top+1)+(g.top+1) by omega,<-List.replicate_append_replicate]
  refine l.AM.append o.AM ?_;intro p i r hr;have x1:=(l.Fi p i).2;have x2:=(o.Fi r hr).2;omega
 ·intro p i
  rcases mA.1 i with i|i
  ·have:=(l.Fi p i).2
   simp only;omega
  ·have:=(o.Fi p i).2
   simp only;omega
 ·intro p i
  rcases mA.1 i with i|i
  ·have:=l.Fi p i
   omega
  ·have:=o.Fi p i
   omega
def XS(F:Fs)(b:Nat):Prop:=b=F.e.wb\/XP F.P b
def BC.no{I:oU}(h:BC I w F g E C){t:TypeId}{cs:Array oV}(i:Ah w b t cs)(j:t≠264):¬XS F b:=by
 rintro(rfl|⟨p,o,rfl⟩)
 ·exact Ah.Bb i h.at_.e.words j rfl
 ·obtain⟨S,l⟩:=h.AM.mem o
  exact Ah.Bb i l.words j rfl
def BC.cell{R:oU}(h:BC R w F g E C)(I:Am (XS F) w w'){o:Nat}(t:b<w.heap.size)(i:oT w (b,o)=oM v)(j:∀z,v ≠ oH .u64 z):w'.cell? (b,o)=oM v:=by
 have P:¬XS F b:=by
  rintro(rfl|⟨p,J,rfl⟩)
  ·exact Om h.at_.e i j rfl
  ·obtain⟨S,l⟩:=h.AM.mem J
   exact Om l i j rfl
 rw[World.cell?_of_block (w:=w) (I.block b t P)];exact i
def NO{o:Nat}(h:oT w (b,o)=oM v):b<w.heap.size:=World.block_lt_of_cell? w _ h
def BC.put{t:oU}(h:BC t w F g E C){i x:Nat}(o:F.P[i]?=oM p)(R:x<g.nt+1) :
  () 132 #[(p.h,0),x] w fun e w'=>(∃b,e=oQ (oK b))/\BC t w' F g E (C.set i (C.getD i 0|||2 ^ x))/\Am (XS F) w w':=by
 have l:=mG o;refine(M9 (h.AM.at_ i p o) (by rw[h.AM.room p l];exact R)).mono ?_;rintro e w' ⟨J,P,j⟩;exact⟨⟨_,J⟩,h.E0 (j.one l) (h.AM.E0 o P j),(j.one l).mono fun b I=>.inr I⟩
def BC.Xv(h:BC j w F g E C){x:Nat}(t:x<=g.top) :
  () 132 #[(F.e.h,0),x] w fun e w'=>e=oQ (oK (!E.testBit x))/\BC j w' F g (E|||2 ^ x) C/\Am (XS F) w w':=by
 refine(M9 h.at_.e (i:=x) (by rw[h.at_.en];omega)).mono ?_;rintro e w' ⟨o,p,i⟩;exact⟨o,h.empty i p,i.mono fun b l=>.inl l⟩
def BC.line{I:oU}(h:BC I w F g E C){i:Nat}(t:F.P[i]?=oM p)(T:BF w lv l)(U:∀x∈l,x<=g.top) :
  () 215 #[(F.q,0),(p.h,0),lv] w fun e w'=>e=oQ (.tuple #[oK (Dx E i l C false).2.1,oK (Dx E i l C false).2.2])/\BC I w' F g E (Dx E i l C false).1/\Am (XS F) w w':=by
 have j:=mG t;refine(PB h.at_ h.AM (List.prefix_refl _) t (h.ne p j) T U).mono ?_;rintro e w' ⟨P,R,o⟩;exact⟨P,h.E0 (o.one j) R,(o.one j).mono fun b J=>.inr J⟩
def BC.Br(h:BC j w F g E C)(I:BF w rv l)(P:∀x∈l,x<=g.top)(J:left<=g.top) :
  () 216 #[(F.q,0),.agg #[left,rv]] w fun e w'=>e=oQ (oK (EO g E (g.top+1) left l C false).2)/\BC j w' F g E (EO g E (g.top+1) left l C false).1/\Am (XS F) w w':=by
 refine(mK h.at_ h.AM h.ne I P J).mono ?_;rintro e w' ⟨p,t,i⟩;exact⟨p,h.E0 i t,i.mono fun b o=>.inr o⟩
def Gt(g:Gz)(j:Nat):List Nat:=(List.range (g.top+1)).map (fun x=>if x<j then 2 ^ x else 0)++List.replicate (g.top+1) 0
def lS(g:Gz):Gt g 0=List.replicate (2*(g.top+1)) 0:=by
 unfold Gt;have e:List.replicate (2*(g.top+1)) 0=List.replicate (g.top+1) 0++List.replicate (g.top+1) 0:=by rw[List.replicate_append_replicate];congr 1;omega
 rw[e];congr 1;refine List.eq_replicate_iff.2 ⟨oA,?_⟩;intro b i;obtain⟨x,j,rfl⟩:=List.mem_map.1 i;rw[if_neg (Nat.not_lt_zero _)]
def nK(g:Gz):Gt g (g.nt+1)=J3 g:=by
 unfold Gt J3;congr 1;apply List.map_congr_left;intro x i;by_cases h:x<=g.nt
 ·rw[if_pos nX,if_pos h]
 ·rw[if_neg nX,if_neg h]
def cE{j:Nat}(C:j<=g.top):(Gt g j).set j ((Gt g j).getD j 0|||2 ^ j)=Gt g (j+1):=by
 have e:(Gt g j).getD j 0=0:=by unfold Gt;rw[dG,gL oC,pG,List.getElem?_range nX];simp
 rw[e,Nat.zero_or];unfold Gt;rw[List.set_append_left _ _ oC];congr 1;apply List.ext_getElem
 ·simp
 ·intro i p t
  rw[List.getElem_set];simp only[List.getElem_map,List.getElem_range];split
  ·rename_i l
   rw[if_pos nX,l]
  ·rename_i l
   by_cases o:i<j
   ·rw[if_pos o,if_pos nX]
   ·rw[if_neg o,if_neg nX]
def mY{w0 i:oU}(h:BC w0 w F g E C){t:AH}(j:Below w w i)(ht:AQ i t 0)(hn:t.n=g.nt+1)(a0:w.heap.size<=t.wb)(U:BF i lv l)(I:∀x∈l,x<=g.top)(a2:F.P.length=C.length) :
  () 215 #[(F.q,0),(t.h,0),lv] i fun e w'=>(∃m,e=oQ (.tuple #[oK m,oK (Dr E C l 0).2]))/\AQ w' t (Dr E C l 0).1/\Am t.X i w':=by
 have R:=(h.AM.push j ht hn a0)
 have a4:=h.at_.Ih;have p:(F.P++[t])[C.length]?=oM t:=by rw[<-a2];simp
 have a1:F.e.wb≠t.wb:=by have:=h.at_.e.words.lt;omega
 have o:=PB (h.at_.later j) R ⟨[t],rfl⟩ p a1 U I;obtain⟨m',hm⟩:=Vw (E:=E) (C:=C) l 0 false (fun x a3=>by have:=I x a3;omega);rw[hm]at o;refine o.mono ?_;rintro e w' ⟨P,T,J⟩;refine⟨⟨m',P⟩,?_,J⟩;have:=T.at_ C.length t p;simpa using this
def dS{w0:oU}(h:BC w0 w F g E C)(p:BF w lv l)(hx:∀x∈l,x<=g.top)(a3:g.nt<=120) :
  () 181 #[(F.q,0),lv] w fun e w'=>∃A c,e=oQ (.tuple #[oG A (Bs (g.nt+1) (Dr E C l 0).1).length c,oK (Dr E C l 0).2])/\BF w' (oG A (Bs (g.nt+1) (Dr E C l 0).1).length c) (Bs (g.nt+1) (Dr E C l 0).1)/\Below w w w':=by
 have HS:=Hd h;have U:Hid (() 184 #[oH oO ((g.nt:Int)+1)] w fun e w'=>e=oQ (w.heap.size+1,0)/\AQ w' ⟨w.heap.size+1,w.heap.size,g.nt+1⟩ 0/\Below w w w'):=Hd (Mm (w:=w) (n:=g.nt+1) nX nX);have T:Hid (∀o,Below w w o->AQ o ⟨w.heap.size+1,w.heap.size,g.nt+1⟩ 0->() 215 #[(F.q,0),(w.heap.size+1,0),lv] o fun e w'=>(∃m,e=oQ (.tuple #[oK m,oK (Dr E C l 0).2]))/\AQ w' ⟨w.heap.size+1,w.heap.size,g.nt+1⟩ (Dr E C l 0).1/\Below w w w'):=Hd (fun o i ht=>by refine(mY h i ht rfl (Ay _) (p.later i) hx h.AM.len).mono ?_;rintro e w' ⟨he,j,hc⟩;exact⟨he,j,i.trans (hc.below i.size (fun k hk e=>by have e2:k=w.heap.size:=e;omega))⟩)
 obtain⟨q0,-,-,-,-⟩:=h.at_.cells;have a2:=KZ (g.nt+1) (Dr E C l 0).1;obtain⟨⟨Al,cl,rfl,-⟩,-,-⟩:=id p;clear h p;go_enter Tryz.func181,Tryz.ntmps181
 go_wp2_with (first
  | (
   go_at_call 184;refine U.mono ?_;rintro e o ⟨rfl,j,i⟩
   have a0:=Hd j;have P:=Hd i;clear j i)
  | (
   go_at_call 215;refine(T _ P a0).mono ?_;rintro e w2 ⟨⟨m,rfl⟩,j,i⟩
   have a1:=Hd j;have t:=Hd i;clear j i)
  | (
   go_at_call 191;refine(Uw a1).mono ?_;rintro e w3 ⟨a4,rfl,A,c,rfl,I,i⟩
   have HR:=Hd I;have R:=Hd (t.trans (i.mono t.size));clear I i))
 go_ret2
 have J:=HR.out;simp only[lM]at J;refine⟨A,c,oA,Hi J nX,R⟩
section
variable {w:oU} {v:oV} {g:Gm}
end
