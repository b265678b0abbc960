/- What stands behind a right side's symbol. The sets of a grammar while they are mad. What a list of symbols begins with. A symbol's name. Symbols and rules. Whether two grammars are the same. -/
import Derived.Test.YthaacmablcpdfaaGreatDoorXaf
import Derived.Deep.RegionHeld3
import Derived.Test.YthaacmablcpdfaaGreatDoorXae
import Derived.Deep.RegionLaw
import Derived.BigRegion
import Derived.Test.YthaacmablcpdfaaGreatDoorXnm
set_option linter.all false
set_option maxRecDepth 100000
set_option maxHeartbeats 16000000
namespace Go.Proofs.YthaacmablcpdfaaGreatDoor
open Go.RowKit
variable{rv v:Value}{p:AI}{j w':World}{l:List Nat}{left:Nat}
def XP(P:List AI)(b:Nat):Prop:=∃p∈P,b=p.wb
def Ox{w:World}{s:AI}{S b o:Nat}(h:AU w s S)(j:w.cell? (b,o)=some v)(l:∀z,v ≠ .int .u64 z):b≠s.wb:=by rintro rfl;have i:=h.words.cell o;rw[j]at i;unfold CT at i;rw[List.getElem?_toArray,pG]at i;obtain⟨z,_,p⟩:=Option.map_eq_some_iff.1 i.symm;exact l _ p.symm
def BA.mem{w:World}{n:Nat}{P:List AI}{C:List Nat}(h:BA w n P C)(l:p∈P):∃S,AU w p S:=by obtain⟨i,j,rfl⟩:=List.mem_iff_getElem.1 l;exact⟨_,h.at_ i _ (eG j)⟩
def BA.cell{w:World}{n:Nat}{P:List AI}{C:List Nat}(h:BA w n P C)(t:Aj (XP P) w w'){b o:Nat}(l:b<w.heap.size)(i:w.cell? (b,o)=some v)(I:∀z,v ≠ .int .u64 z):w'.cell? (b,o)=some v:=by
 have R:¬XP P b:=by rintro⟨p,J,rfl⟩;obtain⟨S,j⟩:=h.mem J;exact Ox j i I rfl
 rw[World.cell?_of_block (w:=w) (t.block b l R)];exact i
def BA.bK{w:World}{n:Nat}{P:List AI}{C:List Nat}(h:BA w n P C)(i:Aj (XP P) w w')(I:BF w v l):BF w' v l:=by obtain⟨⟨A,c,T,t⟩,R,J⟩:=I;refine⟨⟨A,c,T,fun k x U=>?_⟩,R,J⟩;obtain⟨b,off,o,j,p⟩:=t k x U;exact⟨b,off,o,AW j i.size,h.cell i j p (fun z e=>by cases e)⟩
def DB.Q4{w:World}{F:Fs}{g:Gz}{E n:Nat}{P:List AI}{C:List Nat}(h:DB w F g E)(U:BA w n P C)(o:Aj (XP P) w w')(a0:∀p∈P,F.e.wb≠p.wb):DB w' F g E:=by
 have t:∀b,XP P b->∃l,Ah w b 156 l:=fun b i=>by obtain⟨p,J,rfl⟩:=i;obtain⟨S,R⟩:=U.mem J;exact⟨_,R.words⟩
 refine⟨o.Ap h.Ap ?_,h.e.AF o ?_ ?_,h.en,h.Ht,o.own h.bv ?_,o.own h.hv ?_,h.top⟩
 ·intro i
  obtain⟨l,j⟩:=t _ i;exact Ah.Bh h.Ap j (by decide) rfl
 ·intro i
  obtain⟨l,j⟩:=t _ i;exact Ah.Bh h.e.head j (by decide) rfl
 ·rintro⟨p,J,T⟩
  exact a0 p J T
 ·intro k I i
  obtain⟨l,j⟩:=t _ i;exact DK h.bv j (by decide) I
 ·intro k I i
  obtain⟨l,j⟩:=t _ i;exact DK h.hv j (by decide) I
def Aj.one{w:World}{P:List AI}(h:Aj p.X w w')(j:p∈P):Aj (XP P) w w':=h.mono fun b i=>⟨p,j,i⟩
def Bv.drop{o:Type}{E:o->Value}{w:World}{b off n c:Nat}{l:List o}(h:Bv E w (.slice (b,off) n c) l)(k:Nat)(U:k<=n):Bv E w (.slice (b,off+k) (n-k) (c-k)) (l.drop k):=by
 obtain⟨⟨R,c1,P,t⟩,hs,J⟩:=h;have a0:=(J _ _ _ rfl).1;cases P
 refine⟨⟨_,c-k,by rw[List.length_drop],fun i x j=>?_⟩,by rw[List.length_drop];omega,fun _ _ _ e=>by cases e;exact⟨by omega,fun e=>by cases e⟩⟩;rw[List.getElem?_drop]at j;obtain⟨T,a1,p,I,C⟩:=t (k+i) x j;cases p
 exact⟨b,off+k,rfl,I,by rw[show off+k+i=off+(k+i) by omega];exact C⟩
def Bv.cut{i:Type}{E:i->Value}{w:World}{b off n c:Nat}{l:List i}(h:Bv E w (.slice (b,off) n c) l)(k:Nat)(j:k<=n):Bv E w (.slice (if c=k then some ⟨b,off,none⟩ else some ⟨b,off+k,none⟩) (n-k) (c-k)) (l.drop k):=by
 have J:=(h.room _ _ _ rfl).1;split
 ·rename_i C
  have I:n=l.length:=by
   obtain⟨⟨t,c1,p,-⟩,-,-⟩:=h;cases p
   rfl
  have o:l.drop k=[]:=List.drop_eq_nil_of_le (by omega);rw[o,show n-k=0 by omega];exact Bv.nil w _ _ (fun e=>by cases e)
 ·exact h.drop k j
def SZ(w:World)(n:Nat)(P:List AI)(r:List Nat×Bool)(e:Ending)(w':World):Prop:=e=.returned (.bool r.2)/\BA w' n P r.1/\Aj (XP P) w w'
def kA{w:World}{F:Fs}{g:Gz}{E:Nat}{C:List Nat}(h:DB w F g E)(hf:BA w (g.nt+1) F.P C)(aw:∀p∈F.P,F.e.wb≠p.wb)(hl:BF w rv l)(hx:∀x∈l,x<=g.top)(bk:left<=g.top) :
  () 198 #[(F.q,0),.agg #[left,rv]] w (SZ w (g.nt+1) F.P (EY g E (g.top+1) left l C false)):=by
 have a0:Hid (∀y,Aj (XP F.P) w y->DB y F g E):=Hd (fun y i=>h.Q4 hf i aw);have az:Hid (∀y,Aj (XP F.P) w y->BF y rv l):=Hd (fun y i=>hf.bK i hl);have HX:=Hd hx;have ba:=Hd hf;have bf:=Hd aw;have br:=h.top;obtain⟨bg,bc,I,a5,-,aa,-,bo⟩:=h.open_;have bm:=h.Ht;obtain⟨⟨A,c,rfl,-⟩,hs,b6⟩:=id hl;have bq:=(b6 _ _ _ rfl).1;have bh:=Hd (Ah.new w 65 #[left,.slice A l.length c]);have U:Hid (Aj (XP F.P) w (w.alloc (.cells #[left,.slice A l.length c] 65))):=Hd ((Aj.refl _ w).alloc _);have an:Hid (∀y,Aj (XP F.P) (w.alloc (.cells #[left,.slice A l.length c] 65)) y->y.cell? (w,0)=some (.int .i64 left)/\y.cell? (w,1)=some (.slice A l.length c)):=Hd (fun y i=>by
  have hb:=i.Ap bh (by rintro⟨p,hp,e⟩;have:=(ba.lt hp).2;omega)
  exact⟨hb.cell 0,hb.cell 1⟩)
 have bd:=Hd (hf.later (AH w (.cells #[left,.slice A l.length c] 65)));clear hx hf aw h hl b6;unfold SZ;generalize hR:EY g E (g.top+1) left l C false=bi;have HR:=Hd hR;clear hR;obtain⟨C',m'⟩:=bi;simp only;go_enter Tryz.func198,Tryz.ntmps198
 go_wp2_with fail
 generalize w.alloc (.cells #[left,.slice A l.length c] 65)=W0 at *;go_loopw [5,13] (fun mo ii wr=>∃(j:Nat) (P:List Nat) (m:Bool),j<=l.length/\ii=.int .i64 j/\mo=.bool m/\Hid (BA wr (g.nt+1) F.P P)/\Hid (Aj (XP F.P) W0 wr)/\Hid (EY g E (g.top+1) left (l.drop j) P m=(C',m'))) (fun _ ii _=>l.length-(intOf ii).toNat)
 case atStart=>exact⟨0,C,false,AZ _,rfl,rfl,bd,Hd (Aj.refl _ _),HR⟩
 case round=>
  obtain⟨j,P,m,hj,rfl,rfl,aj,a7,a1⟩:=hrel;by_cases bl:j<l.length
  ·have ab:=eG bl
   generalize l[j]=x at ab;have b9:=HX x (mG ab);have b3:=IC ab;rw[b3]at a1;have ax:=Hd (U.next a7);obtain⟨b,off,rfl,bp,bn⟩:∃b off,A=some ⟨b,off,none⟩/\b<wr.heap.size/\wr.cell? ⟨b,off+j,none⟩=some (.int .i64 x):=by
    obtain⟨⟨A',c',e,hc⟩,-,-⟩:=az wr ax;cases e
    exact hc j x ab
   obtain⟨q0,q1,-,-,q4⟩:=(a0 wr ax).cells;obtain⟨r0,r1⟩:=an wr a7;have af:Hid (∀y,() 216 #[.agg #[g.nt,g.top],x] y (Br y (g.BJ x))):=Hd (fun y=>Ws y g.nt g.top x);clear ab b3;cases a2:g.BJ x with
   | false=>
    rw[a2]at af;have T:Hid (EY g E (g.top+1) left (l.drop (j+1)) P m=(C',m')):=Hd (by have:=a1.out;rw[EY,if_neg (by simp[a2])]at this;exact this);clear a1 a2;go_wp2_with (go_at_call 216;refine(af _).mono ?_;rintro e w1 ⟨rfl,a8⟩;have a6:=Hd a8;clear a8)
    go_roundw
    case rel=>exact⟨j+1,P,m,by omega,by go_num,rfl,Hd (aj.later a6),Hd (a7.next (Aj.AK a6)),T⟩
    case measure=>simp[intOf];omega
   | true=>
    rw[a2]at af;obtain⟨p,hp⟩:∃p,F.P[g.top+1+x]?=some p:=⟨_,eG (by omega)⟩
    obtain⟨pl,b5⟩:∃p,F.P[g.top+1+left]?=some p:=⟨_,eG (by omega)⟩
    have R:=Hd hp;have al:=Hd b5;obtain⟨sa,b7⟩:∃sa,(if c=j+1 then some (⟨b,off,none⟩:Addr) else some ⟨b,off+(j+1),none⟩)=sa:=⟨_,rfl⟩
    have be:Hid (∀y,Aj (XP F.P) w y->BA y (g.nt+1) F.P P->() 197 #[(F.q,0),(p.h,0),.slice sa (l.length-(j+1)) (c-(j+1))] y (O3 y (g.nt+1) F.P p (DD E (g.top+1+x) (l.drop (j+1)) P false))):=Hd (fun y i bj=>Ol (a0 y i) bj (List.prefix_refl _) R (bf p (mG R)) (by have:=(az y i).cut (j+1) (by omega);rwa [b7]at this) (fun z hz=>HX z (List.mem_of_mem_drop hz)))
    have HS:Hid (∀y,Aj (XP F.P) W0 y->y.cell? (F.q,4)=some (.slice (I,0) (g.top+1) a5)/\y.cell? (I,x)=some (.pointer (p.h,0))/\y.cell? (w,1)=some (.slice (some ⟨b,off,none⟩) l.length c)):=Hd (fun y i=>by obtain⟨-,-,-,-,z4⟩:=(a0 y (U.next i)).cells;rw[aa]at z4;exact⟨z4,(a0 y (U.next i)).Mi aa R b9,(an y i).2⟩)
    have ar:Hid (∀y,Aj (XP F.P) W0 y->y.cell? (F.q,4)=some (.slice (I,0) (g.top+1) a5)/\y.cell? (I,x)=some (.pointer (p.h,0))/\y.cell? (I,left)=some (.pointer (pl.h,0))/\y.cell? (w,0)=some (.int .i64 left)):=Hd (fun y i=>by obtain⟨-,-,-,-,z4⟩:=(a0 y (U.next i)).cells;rw[aa]at z4;exact⟨z4,(a0 y (U.next i)).Mi aa R b9,(a0 y (U.next i)).Mi aa al bk,(an y i).1⟩)
    have aq:Hid (∀o J,DD E (g.top+1+x) (l.drop (j+1)) P false=(o,J,true)->EY g E (g.top+1) left (l.drop (j+1)) (o.set (g.top+1+x) (o.getD (g.top+1+x) 0|||o.getD (g.top+1+left) 0)) (m||((o.getD (g.top+1+x) 0|||o.getD (g.top+1+left) 0) != o.getD (g.top+1+x) 0||J))=(C',m')):=Hd (fun o J h1=>by have:=a1.out;rw[EY,if_pos a2,h1]at this;exact this);have ao:Hid (∀o J,DD E (g.top+1+x) (l.drop (j+1)) P false=(o,J,false)->EY g E (g.top+1) left (l.drop (j+1)) o (m||J)=(C',m')):=Hd (fun o J h1=>by have:=a1.out;rw[EY,if_pos a2,h1]at this;exact this)
    clear a1 a2 hp b5;generalize DD E (g.top+1+x) (l.drop (j+1)) P false=R1 at *;obtain⟨o,J,b1⟩:=R1;go_upto_region 6 with(go_at_call 216;refine(af _).mono ?_;rintro e w1 ⟨rfl,a8⟩;have a6:=Hd a8;clear a8 q0 q1 q4 r0 r1)
    have ad:=Hd (a7.next (Aj.AK a6));have bb:=Hd (aj.later a6);obtain⟨s0,s1,s2⟩:=HS w1 ad;have i1:(0:Int)<=(x:Int):=by omega
    have bt:x<g.top+1:=by omega
    have i3:(0:Int)<=(j:Int)+1:=by omega
    have i4:(j:Int)+1<=(l.length:Int):=by omega
    have i5:(l.length:Int)<=(c:Int):=by omega
    have i6:IntKind.i64.wrap ((j:Int)+1)=(j:Int)+1:=by rw[IntKind.wrap_i64];omega
    generalize b8:g.top+1=t at *;have au:=Hd b8;have i2:(x:Int)<(t:Int):=by omega
    clear b8;have ag:Hid (∀y,Below w1 w1 y->y.cell? (F.q,4)=some (.slice (I,0) t a5)/\y.cell? (I,x)=some (.pointer (p.h,0))/\y.cell? (w,1)=some (.slice (some ⟨b,off,none⟩) l.length c)):=Hd (fun y i=>HS y (ad.next (Aj.AK i)));have ay:Hid (∀y,Below w1 w1 y->() 197 #[(F.q,0),(p.h,0),.slice sa (l.length-(j+1)) (c-(j+1))] y fun e w'=>e=.returned (.tuple #[.bool J,.bool b1])/\BA w' (g.nt+1) F.P o/\Aj (XP F.P) W0 w'):=Hd (fun y i=>by refine(be y (U.next (ad.next (Aj.AK i))) (bb.later i)).mono ?_;rintro e w' ⟨he,h1,h2⟩;exact⟨he,h1,(ad.next (Aj.AK i)).next (h2.one (mG R))⟩)
    go_region_held3 (fun y=>y.cell? (F.q,4)=some (.slice (I,0) t a5)/\y.cell? (I,x)=some (.pointer (p.h,0))/\y.cell? (w,1)=some (.slice (some ⟨b,off,none⟩) l.length c))
     (first|exact ag _ ⟨rfl,rfl,rfl,AG _,fun _ _=>rfl⟩|exact HK _ ⟨rfl,rfl,rfl,AG _,fun _ _=>rfl⟩)
     (first|(go_at_call 197;refine(ay w1.drew ⟨rfl,rfl,rfl,AG _,fun _ _=>rfl⟩).mono ?_;rintro e w2 ⟨rfl,b4,av⟩;have ae:=Hd b4;have a3:=Hd av;have HK:=Hd (fun(y:World) (i:Below w2 w2 y)=>HS y (av.next (Aj.AK i)));clear b4 av))
    clear ag ay HK b7 s0 s1 s2 i3 i4 i5 i6;cases b1 with
    | false=>
     have T:=Hd (ao o J rfl);rw[<-au.out]at T;clear aq ao;cases m<;>cases J
     all_goals go_wp2_with fail
     all_goals go_roundw
     all_goals first
      | exact⟨j+1,o,false,by omega,by go_num,rfl,ae,a3,T⟩
      | exact⟨j+1,o,true,by omega,by go_num,rfl,ae,a3,T⟩
      | (simp[intOf];omega)
    | true=>
     have T:=Hd (aq o J rfl);have b0:Hid (∀y,Aj (XP F.P) W0 y->BA y (g.nt+1) F.P o->() 157 #[(p.h,0),(pl.h,0)] y fun e w'=>e=.returned (.bool (o.getD (t+x) 0|||o.getD (t+left) 0 != o.getD (t+x) 0))/\BA w' (g.nt+1) F.P (o.set (t+x) (o.getD (t+x) 0|||o.getD (t+left) 0))/\Aj (XP F.P) W0 w'):=Hd (fun y hc i=>by
      refine(Hk (i.at_ _ p R) (i.at_ _ pl al) ?_).mono ?_
      ·rw[i.room p (mG R),i.room pl (mG al)]
      ·rintro e w' ⟨he,h1,h2⟩
       exact⟨he,i.ER R h1 h2,hc.next (h2.one (mG R))⟩)
     clear aq ao;generalize (o.getD (t+x) 0|||o.getD (t+left) 0 != o.getD (t+x) 0)=b2 at *;generalize o.set (t+x) (o.getD (t+x) 0|||o.getD (t+left) 0)=C2 at *;obtain⟨s0,s1,s2,s3⟩:=ar w2 a3;have i7:(left:Int)<(t:Int):=by have:=au.out;omega
     have i8:(0:Int)<=(left:Int):=by omega
     rw[<-au.out]at T;cases b2
     ·go_upto_region 8 with fail
      have ag:Hid (∀y,Below w2 w2 y->y.cell? (F.q,4)=some (.slice (I,0) t a5)/\y.cell? (I,x)=some (.pointer (p.h,0))/\y.cell? (I,left)=some (.pointer (pl.h,0))/\y.cell? (w,0)=some (.int .i64 left)):=Hd (fun y i=>ar y (a3.next (Aj.AK i)));have ak:=Hd (b0 w2.drew a3.drew (ae.later ⟨rfl,rfl,rfl,AG _,fun _ _=>rfl⟩))
      go_region_held3 (fun y=>y.cell? (F.q,4)=some (.slice (I,0) t a5)/\y.cell? (I,x)=some (.pointer (p.h,0))/\y.cell? (I,left)=some (.pointer (pl.h,0))/\y.cell? (w,0)=some (.int .i64 left))
       (first|exact ag _ ⟨rfl,rfl,rfl,AG _,fun _ _=>rfl⟩|exact HK _ ⟨rfl,rfl,rfl,AG _,fun _ _=>rfl⟩)
       (first|(go_at_call 157;refine ak.mono ?_;rintro e w3 ⟨rfl,a9,a4⟩;have ai:=Hd a9;have ah:=Hd a4;have HK:=Hd (fun(y:World) (i:Below w3 w3 y)=>ar y (a4.next (Aj.AK i)));clear a9 a4))
      cases m<;>(
      go_wp2_with fail
      go_roundw
      all_goals first
       | exact⟨j+1,C2,_,by omega,by go_num,rfl,ai,ah,T⟩
       | (simp[intOf];omega))
     ·go_upto_region 8 with fail
      have ak:=Hd (b0 w2.drew a3.drew (ae.later ⟨rfl,rfl,rfl,AG _,fun _ _=>rfl⟩));first
       | (go_region_law (first|(go_simp;go_at_call 157;refine ak.mono ?_;rintro e w3 ⟨rfl,a9,a4⟩;have ai:=Hd a9;have ah:=Hd a4;clear a9 a4)))
       | fail
      all_goals (
       cases m<;>(
       go_wp2_with fail
       go_roundw
       all_goals first
        | exact⟨j+1,C2,_,by omega,by go_num,rfl,ai,ah,T⟩
        | (simp[intOf];omega)))
  ·obtain rfl:j=l.length:=by omega
   have e:=a1.out;rw[List.drop_length,EY]at e;cases e
   go_wp2_with fail
   go_ret;exact⟨rfl,aj,U.next a7⟩
structure BD(w0 wr:World)(F:Fs)(g:Gz)(E:Nat)(C:List Nat):Prop where
 at_:DB wr F g E
 AM:BA wr (g.nt+1) F.P C
 ne:∀p∈F.P,F.e.wb≠p.wb
 new:w0.heap.size<=F.q/\w0.heap.size<=F.e.h/\w0.heap.size<=F.e.wb/\∀p∈F.P,w0.heap.size<=p.h/\w0.heap.size<=p.wb
 below:Below w0 w0 wr
variable{F:Fs}{g:Gz}{E:Nat}{C:List Nat}
def BD.later{w:World}(h:BD j w F g E C)(i:Below w w w'):BD j w' F g E C:=
 ⟨h.at_.later i,h.AM.later i,h.ne,h.new,h.below.trans (i.mono h.below.size)⟩
def BD.ER{l w:World}{i:List Nat}(h:BD l w F g E C)(j:Aj (XP F.P) w w')(o:BA w' (g.nt+1) F.P i):BD l w' F g E i:=
 ⟨h.at_.Q4 h.AM j h.ne,o,h.ne,h.new,h.below.trans (j.below h.below.size (fun k J I=>by obtain⟨p,t,rfl⟩:=I;have:=(h.new.2.2.2 p t).2;omega))⟩
def BD.empty{t w:World}{l:Nat}(h:BD t w F g E C)(i:Aj F.e.X w w')(J:AU w' F.e l):BD t w' F g l C:=by
 refine⟨⟨i.Ap h.at_.Ap ?_,J,h.at_.en,h.at_.Ht,i.own h.at_.bv ?_,i.own h.at_.hv ?_,h.at_.top⟩,h.AM.AF i ?_,h.ne,h.new,h.below.trans (i.below h.below.size ?_)⟩
 ·exact Ah.Bh h.at_.Ap h.at_.e.words (by decide)
 ·exact fun k j e=>DK h.at_.bv h.at_.e.words (by decide) (by rw[j,show k=F.e.wb from e])
 ·exact fun k j e=>DK h.at_.hv h.at_.e.words (by decide) (by rw[j,show k=F.e.wb from e])
 ·intro p o
  obtain⟨S,I⟩:=h.AM.mem o;exact⟨I.head_ne h.at_.e,fun e=>h.ne p o (show F.e.wb=p.wb from e.symm)⟩
 ·intro k j e
  have:=h.new.2.2.1;have P:k=F.e.wb:=e;omega
def BA.append{w:World}{n:Nat}{P Q:List AI}{D:List Nat}(h:BA w n P C)(k:BA w n Q D)(t:∀p∈P,∀q∈Q,p.wb≠q.wb):BA w n (P++Q) (C++D):=by
 refine⟨by simp[h.len,k.len],?_,?_,?_⟩
 ·intro p j
  rcases mA.1 j with j|j
  ·exact h.room p j
  ·exact k.room p j
 ·intro i p j
  by_cases l:i<P.length
  ·rw[gL l]at j
   rw[dG,gL (by rw[<-h.len];exact l),<-dG];exact h.at_ i p j
  ·rw[List.getElem?_append_right (by omega)]at j
   rw[dG,List.getElem?_append_right (by rw[<-h.len];omega),<-dG,<-h.len];exact k.at_ _ p j
 ·rw[Bw,List.nodup_append]
  refine⟨h.apart,k.apart,?_⟩;intro a ha b o;obtain⟨p,j,rfl⟩:=List.mem_map.1 ha;obtain⟨q,I,rfl⟩:=List.mem_map.1 o;exact t p j q I
structure Jr(a b:Nat)(w:World)(n k:Nat)(o:Value)(P:List AI):Prop where
 row:∃A c,o=.slice A k c
 len:P.length=k
 pr:Je w 0 o P
 AM:BA w n P (List.replicate k 0)
 Fj:∀p∈P,(a<=p.h/\p.h<b)/\(a<=p.wb/\p.wb<b)
variable{w:World}{o:Value}{b:Nat}
def LL.at_{wr:World}{n k:Nat}(h:LL w n k o wr):∃P,Jr w.heap.size wr.heap.size wr n k o P:=by obtain⟨A,c,P,rfl,t,C,j,l⟩:=h.row;exact⟨P,⟨_,_,rfl⟩,t,EL C (AZ _),j,fun p i=>⟨⟨(l p i).1,(j.lt i).1⟩,(l p i).2,(j.lt i).2⟩⟩
def Jr.later{a:Nat}{n k:Nat}{P:List AI}(h:Jr a b w n k o P)(i:Below w w w'):Jr a b w' n k o P:=
 ⟨h.row,h.len,AV h.pr i,h.AM.later i,h.Fj⟩
def BD.make{t:World}{e:AI}{R U:Value}{q C J I P:Nat}{P1 P2:List AI}(a0:Ah t q 279 #[g.nt,g.top,e.v,R,U])(he:AU t e 0)(a1:e.n=g.top+1)(ht:g.top<=1000)
  (l:Jr C J t (g.nt+1) (g.top+1) R P1) (o:Jr I P t (g.nt+1) (g.top+1) U P2) (hb:Below j j t) (a3:J<=I\/P<=C) (a4:e.wb<C\/J<=e.wb) (a5:e.wb<I\/P<=e.wb)
  (n1:j.heap.size<=q/\j.heap.size<=e.h/\j.heap.size<=e.wb/\j.heap.size<=C/\j.heap.size<=I):BD j t ⟨q,e,P1++P2,R,U⟩ g 0 (List.replicate (2*(g.top+1)) 0):=by
 have T:=l.len;have a2:=o.len;refine⟨⟨a0,he,a1,by simp[T,a2];omega,?_,?_,ht⟩,?_,?_,⟨n1.1,n1.2.1,n1.2.2.1,?_⟩,hb⟩
 ·simp only
  rw[List.take_left' T];exact l.pr
 ·simp only
  rw[List.drop_left' T];exact o.pr
 ·rw[show 2*(g.top+1)=(g.top+1)+(g.top+1) by omega,<-List.replicate_append_replicate]
  refine l.AM.append o.AM ?_;intro p i r hr;have x1:=(l.Fj p i).2;have x2:=(o.Fj r hr).2;omega
 ·intro p i
  rcases mA.1 i with i|i
  ·have:=(l.Fj p i).2
   simp only;omega
  ·have:=(o.Fj p i).2
   simp only;omega
 ·intro p i
  rcases mA.1 i with i|i
  ·have:=l.Fj p i
   omega
  ·have:=o.Fj p i
   omega
def XS(F:Fs)(b:Nat):Prop:=b=F.e.wb\/XP F.P b
def BD.no{I:World}(h:BD I w F g E C){t:TypeId}{cs:Array Value}(i:Ah w b t cs)(j:t≠156):¬XS F b:=by
 rintro(rfl|⟨p,o,rfl⟩)
 ·exact Ah.Bh i h.at_.e.words j rfl
 ·obtain⟨S,l⟩:=h.AM.mem o
  exact Ah.Bh i l.words j rfl
def BD.cell{R:World}(h:BD R w F g E C)(I:Aj (XS F) w w'){o:Nat}(t:b<w.heap.size)(i:w.cell? (b,o)=some v)(j:∀z,v ≠ .int .u64 z):w'.cell? (b,o)=some v:=by
 have P:¬XS F b:=by
  rintro(rfl|⟨p,J,rfl⟩)
  ·exact Ox h.at_.e i j rfl
  ·obtain⟨S,l⟩:=h.AM.mem J
   exact Ox l i j rfl
 rw[World.cell?_of_block (w:=w) (I.block b t P)];exact i
def Mr{o:Nat}(h:w.cell? (b,o)=some v):b<w.heap.size:=World.block_lt_of_cell? w _ h
def BD.put{t:World}(h:BD t w F g E C){i x:Nat}(o:F.P[i]?=some p)(R:x<g.nt+1) :
  () 86 #[(p.h,0),x] w fun e w'=>(∃b,e=.returned (.bool b))/\BD t w' F g E (C.set i (C.getD i 0|||2 ^ x))/\Aj (XS F) w w':=by
 have l:=mG o;refine(ME (h.AM.at_ i p o) (by rw[h.AM.room p l];exact R)).mono ?_;rintro e w' ⟨J,P,j⟩;exact⟨⟨_,J⟩,h.ER (j.one l) (h.AM.ER o P j),(j.one l).mono fun b I=>.inr I⟩
def BD.bP(h:BD j w F g E C){x:Nat}(t:x<=g.top) :
  () 86 #[(F.e.h,0),x] w fun e w'=>e=.returned (.bool (!E.testBit x))/\BD j w' F g (E|||2 ^ x) C/\Aj (XS F) w w':=by
 refine(ME h.at_.e (i:=x) (by rw[h.at_.en];omega)).mono ?_;rintro e w' ⟨o,p,i⟩;exact⟨o,h.empty i p,i.mono fun b l=>.inl l⟩
def BD.line{J:World}(h:BD J w F g E C){i:Nat}(t:F.P[i]?=some p){I:Value}(U:BF w I l)(hx:∀x∈l,x<=g.top) :
  () 197 #[(F.q,0),(p.h,0),I] w fun e w'=>e=.returned (.tuple #[.bool (DD E i l C false).2.1,.bool (DD E i l C false).2.2])/\BD J w' F g E (DD E i l C false).1/\Aj (XS F) w w':=by
 have j:=mG t;refine(Ol h.at_ h.AM (List.prefix_refl _) t (h.ne p j) U hx).mono ?_;rintro e w' ⟨R,T,o⟩;exact⟨R,h.ER (o.one j) T,(o.one j).mono fun b P=>.inr P⟩
def BD.Bb(h:BD j w F g E C)(I:BF w rv l)(P:∀x∈l,x<=g.top)(J:left<=g.top) :
  () 198 #[(F.q,0),.agg #[left,rv]] w fun e w'=>e=.returned (.bool (EY g E (g.top+1) left l C false).2)/\BD j w' F g E (EY g E (g.top+1) left l C false).1/\Aj (XS F) w w':=by
 refine(kA h.at_ h.AM h.ne I P J).mono ?_;rintro e w' ⟨p,t,i⟩;exact⟨p,h.ER i t,i.mono fun b o=>.inr o⟩
def Gv(g:Gz)(j:Nat):List Nat:=(List.range (g.top+1)).map (fun x=>if x<j then 2 ^ x else 0)++List.replicate (g.top+1) 0
def gG(g:Gz):Gv g 0=List.replicate (2*(g.top+1)) 0:=by
 unfold Gv;have e:List.replicate (2*(g.top+1)) 0=List.replicate (g.top+1) 0++List.replicate (g.top+1) 0:=by rw[List.replicate_append_replicate];congr 1;omega
 rw[e];congr 1;refine List.eq_replicate_iff.2 ⟨by simp,?_⟩;intro b i;obtain⟨x,j,rfl⟩:=List.mem_map.1 i;rw[if_neg (Nat.not_lt_zero _)]
def Vw(g:Gz):Gv g (g.nt+1)=Js g:=by
 unfold Gv Js;congr 1;apply List.map_congr_left;intro x i;by_cases h:x<=g.nt
 ·rw[if_pos (by omega),if_pos h]
 ·rw[if_neg (by omega),if_neg h]
def Zd{j:Nat}(C:j<=g.top):(Gv g j).set j ((Gv g j).getD j 0|||2 ^ j)=Gv g (j+1):=by
 have e:(Gv g j).getD j 0=0:=by unfold Gv;rw[dG,gL (by simp;omega),pG,List.getElem?_range (by omega)];simp
 rw[e,Nat.zero_or];unfold Gv;rw[List.set_append_left _ _ (by simp;omega)];congr 1;apply List.ext_getElem
 ·simp
 ·intro i p t
  rw[List.getElem_set];simp only[List.getElem_map,List.getElem_range];split
  ·rename_i l
   rw[if_pos (by omega),l]
  ·rename_i l
   by_cases o:i<j
   ·rw[if_pos o,if_pos (by omega)]
   ·rw[if_neg o,if_neg (by omega)]
def VC{w0 i:World}(h:BD w0 w F g E C){t:AI}(j:Below w w i)(ht:AU i t 0)(hn:t.n=g.nt+1)(a0:w.heap.size<=t.wb){J:Value}(hl:BF i J l)(I:∀x∈l,x<=g.top)(a2:F.P.length=C.length) :
  () 197 #[(F.q,0),(t.h,0),J] i fun e w'=>(∃m,e=.returned (.tuple #[.bool m,.bool (Dp E C l 0).2]))/\AU w' t (Dp E C l 0).1/\Aj t.X i w':=by
 have T:=(h.AM.push j ht hn a0)
 have a4:=h.at_.Ht;have p:(F.P++[t])[C.length]?=some t:=by rw[<-a2];simp
 have a1:F.e.wb≠t.wb:=by have:=h.at_.e.words.lt;omega
 have o:=Ol (h.at_.later j) T ⟨[t],rfl⟩ p a1 hl I;obtain⟨m',hm⟩:=UA (E:=E) (C:=C) l 0 false (fun x a3=>by have:=I x a3;omega);rw[hm]at o;refine o.mono ?_;rintro e w' ⟨R,U,P⟩;refine⟨⟨m',R⟩,?_,P⟩;have:=U.at_ C.length t p;simpa using this
def Xg{w0:World}(h:BD w0 w F g E C){t:Value}(p:BF w t l)(hx:∀x∈l,x<=g.top)(a4:g.nt<=120) :
  () 151 #[(F.q,0),t] w fun e w'=>∃A c,e=.returned (.tuple #[.slice A (Bt (g.nt+1) (Dp E C l 0).1).length c,.bool (Dp E C l 0).2])/\BF w' (.slice A (Bt (g.nt+1) (Dp E C l 0).1).length c) (Bt (g.nt+1) (Dp E C l 0).1)/\Below w w w':=by
 have HS:=Hd h;have a0:Hid (() 84 #[.int .i64 ((g.nt:Int)+1)] w fun e w'=>e=.returned (w.heap.size+1,0)/\AU w' ⟨w.heap.size+1,w.heap.size,g.nt+1⟩ 0/\Below w w w'):=Hd (LF (w:=w) (n:=g.nt+1) (by omega) (by omega));have U:Hid (∀o,Below w w o->AU o ⟨w.heap.size+1,w.heap.size,g.nt+1⟩ 0->() 197 #[(F.q,0),(w.heap.size+1,0),t] o fun e w'=>(∃m,e=.returned (.tuple #[.bool m,.bool (Dp E C l 0).2]))/\AU w' ⟨w.heap.size+1,w.heap.size,g.nt+1⟩ (Dp E C l 0).1/\Below w w w'):=Hd (fun o i ht=>by refine(VC h i ht rfl (AG _) (p.later i) hx h.AM.len).mono ?_;rintro e w' ⟨he,j,hc⟩;exact⟨he,j,i.trans (hc.below i.size (fun k hk e=>by have e2:k=w.heap.size:=e;omega))⟩)
 obtain⟨q0,-,-,-,-⟩:=h.at_.cells;have a3:=KE (g.nt+1) (Dp E C l 0).1;obtain⟨⟨Al,cl,rfl,-⟩,-,-⟩:=id p;clear h p;go_enter Tryz.func151,Tryz.ntmps151
 go_wp2_with (first
  | (
   go_at_call 84;refine a0.mono ?_;rintro e o ⟨rfl,j,i⟩
   have a1:=Hd j;have R:=Hd i;clear j i)
  | (
   go_at_call 197;refine(U _ R a1).mono ?_;rintro e w2 ⟨⟨m,rfl⟩,j,i⟩
   have a2:=Hd j;have I:=Hd i;clear j i)
  | (
   go_at_call 159;refine(SH a2).mono ?_;rintro e w3 ⟨a5,rfl,A,c,rfl,J,i⟩
   have HR:=Hd J;have T:=Hd (I.trans (i.mono I.size));clear J i))
 go_ret2
 have P:=HR.out;simp only[lM]at P;refine⟨A,c,by simp,Hh P (by omega),T⟩
def Text(w:World)(s:ByteArray)(e:Ending)(w':World):Prop:=e=.returned (.string s)/\Below w w w'
def fE{g:Gm}{s:Int}(h:g.term s=true):1<=s/\∃k:Nat,s=(k:Int)+1/\k<g.T.length/\∃x,g.T[k]?=some x/\g.name s=x:=by unfold Gm.term at h;rw[Bool.and_eq_true,decide_eq_true_eq,decide_eq_true_eq]at h;refine⟨h.1,(s-1).toNat,by omega,by omega,g.T[(s-1).toNat]'(by omega),eG _,?_⟩;unfold Gm.name;rw[if_neg (by omega),if_neg (by omega),dG,gL (by omega),eG (by omega)];rfl
def bC{g:Gm}{s:Int}(h:g.BJ s=true):∃k:Nat,s=(g.T.length:Int)+k+1/\k<g.N.length/\∃x,g.N[k]?=some x/\g.name s=x:=by
 unfold Gm.BJ at h;rw[Bool.and_eq_true,decide_eq_true_eq,decide_eq_true_eq]at h;refine⟨(s-1-g.T.length).toNat,by omega,by omega,g.N[(s-1-g.T.length).toNat]'(by omega),eG _,?_⟩;unfold Gm.name;have e:(s-1).toNat=g.T.length+(s-1-g.T.length).toNat:=by omega
 rw[if_neg (by omega),if_neg (by omega),dG,List.getElem?_append_right (by omega),e,Nat.add_sub_cancel_left,eG (by omega)];rfl
def ZT{g:Gm}{s:Int}(h0:s≠0)(i:g.term s=false)(j:g.BJ s=false):g.name s=⟨#[]⟩:=by unfold Gm.term at i;unfold Gm.BJ at j;rw[Bool.and_eq_false_iff,decide_eq_false_iff_not,decide_eq_false_iff_not]at i j;unfold Gm.name;rw[if_neg h0,if_pos (by omega)]
def VH(g:Gm):g.name 0=⟨#[36]⟩:=by unfold Gm.name;rw[if_pos rfl]
def Q0{g:Gm}(h:Dc w v g)(s:Int)(hs : -9223372036854775808<=s):() 31 #[v,s] w (Text w (g.name s)):=by
 have ab:=h.small.2.2.1;have aa:=h.small.2.2.2.1;have t:=Hd (fun y (hy:Below w w y)=>NT (h.later hy) s);have p:=Hd (fun y (hy:Below w w y)=>Lj (h.later hy) s);have HG:=Hd (Dv.new w 32 v);obtain⟨AT,cT,AN,cN,AR,cR,rfl,hT,hN,hR⟩:=h.open_;obtain⟨⟨A1,c1,e1,a4⟩,_⟩:=hT;cases e1
 obtain⟨⟨A2,c2,e2,a5⟩,_⟩:=hN;cases e2
 have a6:=Hd a4;have a7:=Hd a5;have J:=Hd (@fE g s);have P:=Hd (@bC g s);have R:=Hd (@ZT g s);clear h hR a4 a5;by_cases h0:s=0
 ·subst h0
  rw[VH];clear J P R t p;generalize g.T.length=nT at *;generalize g.N.length=nN at *;go_enter Tryz.func31,Tryz.ntmps31
  go_wp2;go_ret;exact⟨rfl,AH _ _⟩
 have ad:(s==0)=false:=by simpa using h0
 cases o:g.term s with
 | true=>
  rw[o]at t;obtain⟨hp,k,hk,a8,x,hx,a0⟩:=J o;rw[a0];obtain⟨b,off,hA,a3,l⟩:=a6 k x hx;subst hA;simp only[Cd]at l;clear J P R p o hx a0;generalize g.T.length=nT at *;generalize g.N.length=nN at *;generalize g.R.length=nR at *;have a9:s-1=(k:Int):=by omega
  clear hk hp;go_enter Tryz.func31,Tryz.ntmps31
  go_wp2_with fail
  refine(t _ (AH w _)).mono ?_;rintro e w1 ⟨rfl,i⟩;have j:=Hd (Eu i);obtain⟨T,U,d2,d3⟩:=(HG.later i).four;have e1:=(j.cell (p:=(b,off+k)) a3).trans l;clear i l;go_wp2;go_ret;exact⟨rfl,j⟩
 | false=>
  rw[o]at t;cases I:g.BJ s with
  | true=>
   rw[I]at p;obtain⟨k,hk,a8,x,hx,a0⟩:=P I;rw[a0];obtain⟨b,off,hA,a3,l⟩:=a7 k x hx;subst hA;simp only[Cd]at l;clear J P R o I hx a0;generalize g.T.length=nT at *;generalize g.N.length=nN at *;generalize g.R.length=nR at *;have a9:s-1-(nT:Int)=(k:Int):=by omega
   clear hk;go_enter Tryz.func31,Tryz.ntmps31
   go_wp2_with fail
   refine(t _ (AH w _)).mono ?_;rintro e w1 ⟨rfl,i⟩;have j:=Hd (Eu i);have a2:=Hd (HG.later i);obtain⟨T,U,d2,d3⟩:=a2.four;clear i;go_wp2_with fail
   refine(p _ j).mono ?_;rintro e w2 ⟨rfl,C⟩;have a1:=Hd (j.trans (C.mono j.size));clear T U d2 d3;obtain⟨T,U,d2,d3⟩:=(a2.later C).four;have e1:=(a1.cell (p:=(b,off+k)) a3).trans l;clear C l;go_wp2;go_ret;exact⟨rfl,a1⟩
  | false=>
   rw[I]at p;rw[R h0 o I];clear J P R o I;generalize g.T.length=nT at *;generalize g.N.length=nN at *;generalize g.R.length=nR at *;go_enter Tryz.func31,Tryz.ntmps31
   go_wp2_with fail
   refine(t _ (AH w _)).mono ?_;rintro e w1 ⟨rfl,i⟩;have j:=Hd (Eu i);have a2:=Hd (HG.later i);obtain⟨T,U,d2,d3⟩:=a2.four;clear i;go_wp2_with fail
   refine(p _ j).mono ?_;rintro e w2 ⟨rfl,C⟩;have a1:=Hd (j.trans (C.mono j.size));clear T U d2 d3 C;go_wp2;go_ret;exact⟨rfl,a1⟩
section
variable {w:World} {v:Value} {g:Gm}
def Vp(h:Dc w v g):() 44 #[v] w fun e w'=>e=.returned (.int .i64 ((g.T.length:Int)+(g.N.length:Int)))/\Below w w w':=by
 obtain⟨t,J,o,C,p,I,rfl,l,i,j⟩:=h.open_;have P:=h.small.2.2.1;have R:=h.small.2.2.2.1;clear h l i j;go_enter Tryz.func44,Tryz.ntmps44
 go_wp2;go_ret;exact⟨rfl,AH _ _⟩
def kF(h:Dc w v g)(s:Int):() 141 #[v,s] w (Br w (g.term s)):=by
 obtain⟨t,J,o,C,p,I,rfl,l,i,j⟩:=h.open_;clear h l i j;unfold Gm.term;generalize g.T.length=n;generalize g.N.length=m;go_enter Tryz.func141,Tryz.ntmps141
 go_wp2;all_goals go_ret
 all_goals exact⟨Ci (by rw[Bool.eq_iff_iff];simp[*]<;>omega),AH _ _⟩
def kK(h:Dc w v g)(s:Int):() 46 #[v,s] w (Br w (g.BJ s)):=by
 have o:=Hd (fun y (I:Below w w y)=>Vp (h.later I));obtain⟨R,cT,J,T,P,U,rfl,C,p,t⟩:=h.open_;clear h C p t;unfold Gm.BJ;generalize g.T.length=n at *;generalize g.N.length=m at *;generalize g.R.length=r at *;generalize g.s=gs at *;by_cases j:(n:Int)<s
 ·rw[decide_eq_true j,Bool.true_and]
  go_enter Tryz.func46,Tryz.ntmps46
  go_wp2_with (go_at_call 44;refine(o _ (AH _ _)).mono ?_;rintro e w' ⟨rfl,i⟩;have l:=Hd (Eu i);clear i)
  go_ret;exact⟨rfl,l⟩
 ·rw[decide_eq_false j,Bool.false_and]
  go_enter Tryz.func46,Tryz.ntmps46
  go_wp2;go_ret;exact⟨rfl,AH _ _⟩
end
def TN{u:Value}{a b:List Int}(ha:Bv BP w u a)(j:Bv BP w v b):() 57 #[u,v] w (Br w (a==b)):=by
 obtain⟨⟨A,c,rfl,U⟩,ae⟩:=ha;obtain⟨⟨B,d,rfl,a0⟩,a7⟩:=j;have a3:=Hd U;have a4:=Hd a0;clear U a0;by_cases t:a.length=b.length
 ·rw[<-t]
  have J:=Hd t;clear t a7;go_enter Tryz.func57,Tryz.ntmps57
  go_wp2;go_loopw [5] (fun i wr=>∃k:Nat,k<=a.length/\i=.int .i64 k/\Hid (JW a b k)/\Hid (∃q,wr=w.drewN q)) (fun i _=>a.length-(intOf i).toNat)
  case atStart=>exact⟨0,AZ _,rfl,Hd (fun af x y hj=>absurd hj (Nat.not_lt_zero _)),Hd ⟨0,rfl⟩⟩
  case round=>
   obtain⟨k,hk,rfl,P,o⟩:=hrel;by_cases a6:k<a.length
   ·have C:=eG a6
    have I:=eG (show k<b.length by have:=J.out;omega);generalize a[k]=x at C;generalize b[k]'(by have:=J.out;omega)=y at I;obtain⟨b1,a8,rfl,ab,a1⟩:=a3 k x C;obtain⟨b2,a9,rfl,ad,a2⟩:=a4 k y I;have R:=Hd C;have T:=Hd I;have e1:wr.cell? (b1,a8+k)=some (.int .i64 x):=by obtain⟨q,rfl⟩:=o.out;exact a1
    have e2:wr.cell? (b2,a9+k)=some (.int .i64 y):=by obtain⟨q,rfl⟩:=o.out;exact a2
    clear C I a1 a2;by_cases l:x=y
    ·have p:=Hd (P.next R T l)
     have j:(x != y)=false:=by simp[l]
     clear l;go_wp2;go_quiet (fail)
     have a5:Hid (∃q,wr.drewN nq=w.drewN q):=Hd (by obtain⟨q,hq⟩:=o.out;exact⟨q+nq,by rw[hq,World.drewN_drewN]⟩)
     go_wp2;go_roundw
     case rel=>exact⟨k+1,by omega,by go_num,p,a5⟩
     case measure=>simp[intOf];omega
    ·have p:=Hd (UG R T l)
     have j:(x != y)=true:=by simp[l]
     clear l;go_wp2;go_quiet (fail)
     go_wp2;go_ret;refine⟨Ci p.symm,?_⟩;obtain⟨q,rfl⟩:=o.out;exact JF (JF (Below.refl _ w) _) _
   ·obtain rfl:k=a.length:=by omega
    have p:=Hd (P.all J);go_wp2;go_ret;refine⟨Ci p.symm,?_⟩;obtain⟨q,rfl⟩:=o.out;exact JF (Below.refl _ w) _
 ·have j:(a==b)=false:=by
   rw[bN];rintro rfl;exact t rfl
  rw[j];have aa:¬(a.length:Int)=(b.length:Int):=by omega
  clear t j;go_enter Tryz.func57,Tryz.ntmps57
  go_wp2;go_ret;exact⟨rfl,Below.refl _ w⟩
def Yp{a b:Ru}(ha:Bv BP w a.v a.right)(o:Bv BP w b.v b.right):() 49 #[C0 a,C0 b] w (Br w (Ea a b)):=by
 have I:=Hd (fun z (t:Below w w z)=>TN (ha.later t) (o.later t));clear ha o;unfold Ea C0;generalize (a.right==b.right)=q at *;generalize a.v=J at *;generalize b.v=P at *;generalize a.left=i at *;generalize b.left=j at *;by_cases h:i=j
 ·have l:(i==j)=true:=by simp[h]
  rw[l,Bool.true_and];clear h;go_enter Tryz.func49,Tryz.ntmps49
  go_wp2_with fail
  refine(I _ ((AH w _).trans ((AH _ _).mono (by simp)))).mono ?_;rintro e R ⟨rfl,p⟩;have C:=Hd ((AH w _).trans (((AH _ _).trans (p.mono (by simp))).mono (by simp)));clear p;go_wp2;go_ret;exact⟨rfl,C⟩
 ·have l:(i==j)=false:=by simp[h]
  rw[l,Bool.false_and];clear h;go_enter Tryz.func49,Tryz.ntmps49
  go_wp2;go_ret;exact⟨rfl,((AH w _).trans ((AH _ _).mono (by simp)))⟩
def QG(w:World):Below w w w.drew:=⟨rfl,rfl,rfl,AG _,fun _ _=>rfl⟩
def S0{u:Value}{a:List ByteArray}(ha:Bv Cd w u a)(o:Bv Cd w v a):() 48 #[u,v] w (Br w true):=by
 obtain⟨⟨A,c,rfl,p⟩,a1⟩:=ha;obtain⟨⟨B,d,rfl,t⟩,a7⟩:=o;have J:=Hd p;have P:=Hd t;have a6:=a1;clear p t;go_enter Tryz.func48,Tryz.ntmps48
 go_wp2;go_loopw [5] (fun i wr=>∃k:Nat,k<=a.length/\i=.int .i64 k/\Hid (∃q,wr=w.drewN q)) (fun i _=>a.length-(intOf i).toNat)
 case atStart=>exact⟨0,AZ _,rfl,Hd ⟨0,rfl⟩⟩
 case round=>
  obtain⟨k,hk,rfl,j⟩:=hrel;by_cases a0:k<a.length
  ·have l:=eG a0
   generalize a[k]=x at l;obtain⟨T,a2,rfl,a4,C⟩:=J k x l;obtain⟨U,a3,rfl,a5,I⟩:=P k x l;have e1:wr.cell? (T,a2+k)=some (.string x):=by obtain⟨q,rfl⟩:=j.out;exact C
   have e2:wr.cell? (U,a3+k)=some (.string x):=by obtain⟨q,rfl⟩:=j.out;exact I
   have o:(x.toList != x.toList)=false:=by simp
   clear l C I;go_wp2;go_quiet (fail)
   have R:Hid (∃q,wr.drewN nq=w.drewN q):=Hd (by obtain⟨q,hq⟩:=j.out;exact⟨q+nq,by rw[hq,World.drewN_drewN]⟩)
   go_wp2;go_roundw
   case rel=>exact⟨k+1,by omega,by go_num,R⟩
   case measure=>simp[intOf];omega
  ·obtain rfl:k=a.length:=by omega
   go_wp2;go_ret;refine⟨rfl,?_⟩;obtain⟨q,rfl⟩:=j.out;exact JF (Below.refl _ w) _
def fA{u:Value}{g h:Gm}(hg:Dc w u g)(hh:Dc w v h)(eT:h.T=g.T)(eN:h.N=g.N)(es:h.s=g.s)(eR:h.R.length=g.R.length)(er:∀(k:Nat) (a b:Ru),g.R[k]?=some a->h.R[k]?=some b->Ea a b=true):() 14 #[u,v] w (Br w true):=by
 have HG:=Hd (Dv.new w 32 u);have ad:=Hd (Dv.new (w.alloc (.cells u.cells 32)) 32 v);obtain⟨AT,cT,AN,cN,R,cR,rfl,hT,hN,hR⟩:=hg.open_;obtain⟨U,dT,T,dN,t,dR,rfl,kT,kN,kR⟩:=hh.open_;rw[eT]at kT;rw[eN]at kN;rw[eR]at kR;have HT:=Hd (fun y (i:Below w w y)=>S0 (hT.later i) (kT.later i));have HN:=Hd (fun y (i:Below w w y)=>S0 (hN.later i) (kN.later i));have HL:Hid (∀k,k<g.R.length->∃(a b:Ru) (C J I P:Nat),R=some ⟨C,J,none⟩/\t=some ⟨I,P,none⟩/\∀y,Below w w y ->
   (y.cell? (C,J+k*2)=some (.int .i64 a.left)/\y.cell? (C,J+k*2+1)=some a.v)/\(y.cell? (I,P+k*2)=some (.int .i64 b.left)/\y.cell? (I,P+k*2+1)=some b.v)/\(∃A c,a.v=.slice A a.right.length c)/\(∃A c,b.v=.slice A b.right.length c)/\() 49 #[C0 a,C0 b] y (Br y true)):=Hd (fun k hk=>by
  obtain⟨⟨A1,c1,e1,ai⟩,_⟩:=hR;obtain⟨⟨A2,c2,e2,aj⟩,_⟩:=kR;cases e1
  obtain rfl:t=A2:=by injection e2
  have ha:=eG hk;have hb:=eG (show k<h.R.length by omega);generalize g.R[k]=a at ha;generalize h.R[k]'(by omega)=b at hb;obtain⟨C,J,rfl,l1,x1,x2,x3⟩:=ai k a ha;obtain⟨I,P,rfl,l2,y1,y2,y3⟩:=aj k b hb;refine⟨a,b,C,J,I,P,rfl,rfl,fun y i=>⟨⟨(i.cell (p:=(C,J+k*2)) l1).trans x1,(i.cell (p:=(C,J+k*2+1)) l1).trans x2⟩,⟨(i.cell (p:=(I,P+k*2)) l2).trans y1,(i.cell (p:=(I,P+k*2+1)) l2).trans y2⟩,?_,?_,?_⟩⟩
  ·obtain⟨⟨A,c,e,_⟩,_⟩:=x3;exact⟨A,c,e⟩
  ·obtain⟨⟨A,c,e,_⟩,_⟩:=y3;exact⟨A,c,e⟩
  ·have:=Yp (x3.later i) (y3.later i)
   rw[er k a b ha hb]at this;exact this)
 have ao:g.R.length<=1048576:=hg.small.2.2.2.2.1;rw[eT,eN,eR,es]at ad ⊢;clear hg hh hT hN hR kT kN kR er eT eN eR es;generalize g.T.length=p at *;generalize g.N.length=o at *;generalize g.R.length=j at *;generalize g.s=l at *;have a3:Hid (Below w w ((w.alloc (.cells #[.slice AT p cT,.slice AN o cN,.slice R j cR,l] 32)).alloc (.cells #[.slice U p dT,.slice T o dN,.slice t j dR,l] 32))):=Hd ((AH w _).alloc (by simp) _);have ah:=Hd (HG.later (AH _ (.cells #[.slice U p dT,.slice T o dN,.slice t j dR,l] 32)))
 have HH:=Hd (show Dv ((w.alloc (.cells #[.slice AT p cT,.slice AN o cN,.slice R j cR,l] 32)).alloc (.cells #[.slice U p dT,.slice T o dN,.slice t j dR,l] 32)) (w.heap.size+1) _ by have:=ad.out;rw[World.size_alloc]at this;exact this);have a7:Hid (∀y,Below ((w.alloc (.cells #[.slice AT p cT,.slice AN o cN,.slice R j cR,l] 32)).alloc (.cells #[.slice U p dT,.slice T o dN,.slice t j dR,l] 32)).heap.size ((w.alloc (.cells #[.slice AT p cT,.slice AN o cN,.slice R j cR,l] 32)).alloc (.cells #[.slice U p dT,.slice T o dN,.slice t j dR,l] 32)) y->(y.cell? (w,0)=some (.slice AT p cT)/\y.cell? (w,1)=some (.slice AN o cN)/\y.cell? (w,2)=some (.slice R j cR)/\y.cell? (w,3)=some (.int .i64 l))/\(y.cell? (w.heap.size+1,0)=some (.slice U p dT)/\y.cell? (w.heap.size+1,1)=some (.slice T o dN)/\y.cell? (w.heap.size+1,2)=some (.slice t j dR)/\y.cell? (w.heap.size+1,3)=some (.int .i64 l))):=Hd (fun y i=>⟨(ah.later i).four,(HH.later i).four⟩)
 have aq:∀(x:Bool) (w:World),(Op.unary .not (.bool x)).run Tryz.prog w=.ok (.bool (!x)) w:=fun _ _=>rfl
 go_enter Tryz.func14,Tryz.ntmps14
 go_wp2_with fail
 refine(HT _ a3).mono ?_;rintro e w1 ⟨rfl,a2⟩;have ae:=Hd a2;have a4:=Hd (a3.trans (a2.mono a3.size));obtain⟨⟨g0,g1,g2,g3⟩,h0,h1,h2,h3⟩:=a7 w1 a2;clear a2;go_wp2_with fail
 refine(HN _ a4).mono ?_;rintro e w2 ⟨rfl,a9⟩;have a8:=Hd (ae.trans (a9.mono ae.size));have a1:=Hd (a4.trans (a9.mono a4.size));clear g0 g1 g2 g3 h0 h1 h2 h3 a9;obtain⟨⟨g0,g1,g2,g3⟩,h0,h1,h2,h3⟩:=a7 w2 a8;go_wp2;go_loopw [5] (fun ab wr=>∃k:Nat,k<=j/\ab=.int .i64 k/\Hid (Below w2 w2 wr)) (fun ab _=>j-(intOf ab).toNat)
 case atStart=>exact⟨0,AZ _,rfl,Hd (Below.refl _ _)⟩
 case round=>
  obtain⟨k,hk,rfl,a0⟩:=hrel;clear g0 g1 g2 g3 h0 h1 h2 h3;obtain⟨⟨g0,g1,g2,g3⟩,h0,h1,h2,h3⟩:=a7 wr (a8.trans (a0.mono a8.size));have a5:=Hd (a1.trans (a0.mono a1.size));by_cases ak:k<j
  ·obtain⟨a,b,C,J,I,P,eA,eB,aa⟩:=HL k ak
   obtain⟨⟨p1,p2⟩,⟨q1,q2⟩,⟨A1,c1,ea⟩,⟨A2,c2,eb⟩,_⟩:=aa wr a5;have a6:=Hd (aa wr.drew (a5.trans ((QG wr).mono a5.size))).2.2.2.2;subst eA;subst eB;unfold C0 at a6;rw[ea,eb]at a6;rw[ea]at p2;rw[eb]at q2;clear aa ea eb;generalize a.left=al at *;generalize b.left=bl at *;generalize a.right.length=an at *;generalize b.right.length=bn at *;go_wp2;go_region_law (
     go_simp;go_at_call 49;refine a6.mono ?_;rintro e w3 ⟨rfl,af⟩;have ag:=Hd (a0.trans (((QG wr).trans af).mono a0.size));clear af)
   all_goals go_wp2
   all_goals go_roundw
   all_goals first
    | (case rel=>exact⟨k+1,by omega,by go_num,ag⟩)
    | (case measure=>simp[intOf];omega)
  ·obtain rfl:k=j:=by omega
   go_wp2;go_ret;exact⟨rfl,a1.trans (a0.mono a1.size)⟩
end Go.Proofs.YthaacmablcpdfaaGreatDoor
