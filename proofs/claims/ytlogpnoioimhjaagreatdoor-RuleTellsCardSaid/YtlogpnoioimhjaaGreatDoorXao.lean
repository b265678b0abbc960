/- What stands behind a right side's symbol. The sets of a grammar while they are mad. What a list of symbols begins with. A symbol's name. Symbols and rules. Whether two grammars are the same. -/
import Derived.Test.YtlogpnoioimhjaaGreatDoorXaf
import Derived.Deep.RegionHeld3
import Derived.Test.YtlogpnoioimhjaaGreatDoorXae
import Derived.Deep.RegionLaw
import Derived.BigRegion
import Derived.Test.YtlogpnoioimhjaaGreatDoorXnm
set_option linter.all false
set_option maxRecDepth 100000
set_option maxHeartbeats 16000000
namespace Go.Proofs.YtlogpnoioimhjaaGreatDoor
open Go.RowKit
variable{rv v:Value}{p:AH}{j w':World}{l:List Nat}{left:Nat}
def XP(P:List AH)(b:Nat):Prop:=∃p∈P,b=p.wb
def NJ{w:World}{s:AH}{S b o:Nat}(h:AP w s S)(j:w.cell? (b,o)=some v)(l:∀z,v ≠ .int .u64 z):b≠s.wb:=by rintro rfl;have i:=h.words.cell o;rw[j]at i;unfold CW at i;rw[List.getElem?_toArray,pG]at i;obtain⟨z,_,p⟩:=Option.map_eq_some_iff.1 i.symm;exact l _ p.symm
def Bw.mem{w:World}{n:Nat}{P:List AH}{C:List Nat}(h:Bw w n P C)(l:p∈P):∃S,AP w p S:=by obtain⟨i,j,rfl⟩:=List.mem_iff_getElem.1 l;exact⟨_,h.at_ i _ (eG j)⟩
def Bw.cell{w:World}{n:Nat}{P:List AH}{C:List Nat}(h:Bw w n P C)(t:Aj (XP P) w w'){b o:Nat}(l:b<w.heap.size)(i:w.cell? (b,o)=some v)(I:∀z,v ≠ .int .u64 z):w'.cell? (b,o)=some v:=by
 have R:¬XP P b:=by rintro⟨p,J,rfl⟩;obtain⟨S,j⟩:=h.mem J;exact NJ j i I rfl
 rw[World.cell?_of_block (w:=w) (t.block b l R)];exact i
def Bw.jC{w:World}{n:Nat}{P:List AH}{C:List Nat}(h:Bw w n P C)(i:Aj (XP P) w w')(I:BD w v l):BD w' v l:=by obtain⟨⟨A,c,T,t⟩,R,J⟩:=I;refine⟨⟨A,c,T,fun k x U=>?_⟩,R,J⟩;obtain⟨b,off,o,j,p⟩:=t k x U;exact⟨b,off,o,Ba j i.size,h.cell i j p (fun z e=>by cases e)⟩
def DE.RX{w:World}{F:Fs}{g:Gz}{E n:Nat}{P:List AH}{C:List Nat}(h:DE w F g E)(U:Bw w n P C)(o:Aj (XP P) w w')(a0:∀p∈P,F.e.wb≠p.wb):DE w' F g E:=by
 have t:∀b,XP P b->∃l,Ah w b 256 l:=fun b i=>by obtain⟨p,J,rfl⟩:=i;obtain⟨S,R⟩:=U.mem J;exact⟨_,R.words⟩
 refine⟨o.Ap h.Ap ?_,h.e.AE o ?_ ?_,h.en,h.Ia,o.own h.bv ?_,o.own h.hv ?_,h.top⟩
 ·intro i
  obtain⟨l,j⟩:=t _ i;exact Ah.Bf h.Ap j (by decide) rfl
 ·intro i
  obtain⟨l,j⟩:=t _ i;exact Ah.Bf h.e.head j (by decide) rfl
 ·rintro⟨p,J,T⟩
  exact a0 p J T
 ·intro k I i
  obtain⟨l,j⟩:=t _ i;exact Ej h.bv j (by decide) I
 ·intro k I i
  obtain⟨l,j⟩:=t _ i;exact Ej h.hv j (by decide) I
def Aj.one{w:World}{P:List AH}(h:Aj p.X w w')(j:p∈P):Aj (XP P) w w':=h.mono fun b i=>⟨p,j,i⟩
def BE.drop{o:Type}{E:o->Value}{w:World}{b off n c:Nat}{l:List o}(h:BE E w (.slice (b,off) n c) l)(k:Nat)(U:k<=n):BE E w (.slice (b,off+k) (n-k) (c-k)) (l.drop k):=by
 obtain⟨⟨R,c1,P,t⟩,hs,J⟩:=h;have a0:=(J _ _ _ rfl).1;cases P
 refine⟨⟨_,c-k,by rw[List.length_drop],fun i x j=>?_⟩,by rw[List.length_drop];omega,fun _ _ _ e=>by cases e;exact⟨by omega,fun e=>by cases e⟩⟩;rw[List.getElem?_drop]at j;obtain⟨T,a1,p,I,C⟩:=t (k+i) x j;cases p
 exact⟨b,off+k,rfl,I,by rw[show off+k+i=off+(k+i) by omega];exact C⟩
def BE.cut{i:Type}{E:i->Value}{w:World}{b off n c:Nat}{l:List i}(h:BE E w (.slice (b,off) n c) l)(k:Nat)(j:k<=n):BE E w (.slice (if c=k then some ⟨b,off,none⟩ else some ⟨b,off+k,none⟩) (n-k) (c-k)) (l.drop k):=by
 have J:=(h.room _ _ _ rfl).1;split
 ·rename_i C
  have I:n=l.length:=by
   obtain⟨⟨t,c1,p,-⟩,-,-⟩:=h;cases p
   rfl
  have o:l.drop k=[]:=List.drop_eq_nil_of_le (by omega);rw[o,show n-k=0 by omega];exact BE.nil w _ _ (fun e=>by cases e)
 ·exact h.drop k j
def Q9(w:World)(n:Nat)(P:List AH)(r:List Nat×Bool)(e:Ending)(w':World):Prop:=e=.returned (.bool r.2)/\Bw w' n P r.1/\Aj (XP P) w w'
def bF{w:World}{F:Fs}{g:Gz}{E:Nat}{C:List Nat}(h:DE w F g E)(hf:Bw w (g.nt+1) F.P C)(aw:∀p∈F.P,F.e.wb≠p.wb)(hl:BD w rv l)(hx:∀x∈l,x<=g.top)(bk:left<=g.top) :
  () 189 #[(F.q,0),.agg #[left,rv]] w (Q9 w (g.nt+1) F.P (ET g E (g.top+1) left l C false)):=by
 have a0:Hid (∀y,Aj (XP F.P) w y->DE y F g E):=Hd (fun y i=>h.RX hf i aw);have az:Hid (∀y,Aj (XP F.P) w y->BD y rv l):=Hd (fun y i=>hf.jC i hl);have HX:=Hd hx;have ba:=Hd hf;have bf:=Hd aw;have br:=h.top;obtain⟨bg,bc,I,a5,-,aa,-,bo⟩:=h.open_;have bm:=h.Ia;obtain⟨⟨A,c,rfl,-⟩,hs,b6⟩:=id hl;have bq:=(b6 _ _ _ rfl).1;have bh:=Hd (Ah.new w 119 #[left,.slice A l.length c]);have U:Hid (Aj (XP F.P) w (w.alloc (.cells #[left,.slice A l.length c] 119))):=Hd ((Aj.refl _ w).alloc _);have an:Hid (∀y,Aj (XP F.P) (w.alloc (.cells #[left,.slice A l.length c] 119)) y->y.cell? (w,0)=some (.int .i64 left)/\y.cell? (w,1)=some (.slice A l.length c)):=Hd (fun y i=>by
  have hb:=i.Ap bh (by rintro⟨p,hp,e⟩;have:=(ba.lt hp).2;omega)
  exact⟨hb.cell 0,hb.cell 1⟩)
 have bd:=Hd (hf.later (AG w (.cells #[left,.slice A l.length c] 119)));clear hx hf aw h hl b6;unfold Q9;generalize hR:ET g E (g.top+1) left l C false=bi;have HR:=Hd hR;clear hR;obtain⟨C',m'⟩:=bi;simp only;go_enter Tryz.func189,Tryz.ntmps189
 go_wp2_with fail
 generalize w.alloc (.cells #[left,.slice A l.length c] 119)=W0 at *;go_loopw [5,13] (fun mo ii wr=>∃(j:Nat) (P:List Nat) (m:Bool),j<=l.length/\ii=.int .i64 j/\mo=.bool m/\Hid (Bw wr (g.nt+1) F.P P)/\Hid (Aj (XP F.P) W0 wr)/\Hid (ET g E (g.top+1) left (l.drop j) P m=(C',m'))) (fun _ ii _=>l.length-(intOf ii).toNat)
 case atStart=>exact⟨0,C,false,AX _,rfl,rfl,bd,Hd (Aj.refl _ _),HR⟩
 case round=>
  obtain⟨j,P,m,hj,rfl,rfl,aj,a7,a1⟩:=hrel;by_cases bl:j<l.length
  ·have ab:=eG bl
   generalize l[j]=x at ab;have b9:=HX x (mG ab);have b3:=IQ ab;rw[b3]at a1;have ax:=Hd (U.next a7);obtain⟨b,off,rfl,bp,bn⟩:∃b off,A=some ⟨b,off,none⟩/\b<wr.heap.size/\wr.cell? ⟨b,off+j,none⟩=some (.int .i64 x):=by
    obtain⟨⟨A',c',e,hc⟩,-,-⟩:=az wr ax;cases e
    exact hc j x ab
   obtain⟨q0,q1,-,-,q4⟩:=(a0 wr ax).cells;obtain⟨r0,r1⟩:=an wr a7;have af:Hid (∀y,() 204 #[.agg #[g.nt,g.top],x] y (BB y (g.BV x))):=Hd (fun y=>jH y g.nt g.top x);clear ab b3;cases a2:g.BV x with
   | false=>
    rw[a2]at af;have T:Hid (ET g E (g.top+1) left (l.drop (j+1)) P m=(C',m')):=Hd (by have:=a1.out;rw[ET,if_neg (by simp[a2])]at this;exact this);clear a1 a2;go_wp2_with (go_at_call 204;refine(af _).mono ?_;rintro e w1 ⟨rfl,a8⟩;have a6:=Hd a8;clear a8)
    go_roundw
    case rel=>exact⟨j+1,P,m,by omega,by go_num,rfl,Hd (aj.later a6),Hd (a7.next (Aj.AJ a6)),T⟩
    case measure=>simp[intOf];omega
   | true=>
    rw[a2]at af;obtain⟨p,hp⟩:∃p,F.P[g.top+1+x]?=some p:=⟨_,eG (by omega)⟩
    obtain⟨pl,b5⟩:∃p,F.P[g.top+1+left]?=some p:=⟨_,eG (by omega)⟩
    have R:=Hd hp;have al:=Hd b5;obtain⟨sa,b7⟩:∃sa,(if c=j+1 then some (⟨b,off,none⟩:Addr) else some ⟨b,off+(j+1),none⟩)=sa:=⟨_,rfl⟩
    have be:Hid (∀y,Aj (XP F.P) w y->Bw y (g.nt+1) F.P P->() 188 #[(F.q,0),(p.h,0),.slice sa (l.length-(j+1)) (c-(j+1))] y (OR y (g.nt+1) F.P p (DC E (g.top+1+x) (l.drop (j+1)) P false))):=Hd (fun y i bj=>OW (a0 y i) bj (List.prefix_refl _) R (bf p (mG R)) (by have:=(az y i).cut (j+1) (by omega);rwa [b7]at this) (fun z hz=>HX z (List.mem_of_mem_drop hz)))
    have HS:Hid (∀y,Aj (XP F.P) W0 y->y.cell? (F.q,4)=some (.slice (I,0) (g.top+1) a5)/\y.cell? (I,x)=some (.pointer (p.h,0))/\y.cell? (w,1)=some (.slice (some ⟨b,off,none⟩) l.length c)):=Hd (fun y i=>by obtain⟨-,-,-,-,z4⟩:=(a0 y (U.next i)).cells;rw[aa]at z4;exact⟨z4,(a0 y (U.next i)).M1 aa R b9,(an y i).2⟩)
    have ar:Hid (∀y,Aj (XP F.P) W0 y->y.cell? (F.q,4)=some (.slice (I,0) (g.top+1) a5)/\y.cell? (I,x)=some (.pointer (p.h,0))/\y.cell? (I,left)=some (.pointer (pl.h,0))/\y.cell? (w,0)=some (.int .i64 left)):=Hd (fun y i=>by obtain⟨-,-,-,-,z4⟩:=(a0 y (U.next i)).cells;rw[aa]at z4;exact⟨z4,(a0 y (U.next i)).M1 aa R b9,(a0 y (U.next i)).M1 aa al bk,(an y i).1⟩)
    have aq:Hid (∀o J,DC E (g.top+1+x) (l.drop (j+1)) P false=(o,J,true)->ET g E (g.top+1) left (l.drop (j+1)) (o.set (g.top+1+x) (o.getD (g.top+1+x) 0|||o.getD (g.top+1+left) 0)) (m||((o.getD (g.top+1+x) 0|||o.getD (g.top+1+left) 0) != o.getD (g.top+1+x) 0||J))=(C',m')):=Hd (fun o J h1=>by have:=a1.out;rw[ET,if_pos a2,h1]at this;exact this);have ao:Hid (∀o J,DC E (g.top+1+x) (l.drop (j+1)) P false=(o,J,false)->ET g E (g.top+1) left (l.drop (j+1)) o (m||J)=(C',m')):=Hd (fun o J h1=>by have:=a1.out;rw[ET,if_pos a2,h1]at this;exact this)
    clear a1 a2 hp b5;generalize DC E (g.top+1+x) (l.drop (j+1)) P false=R1 at *;obtain⟨o,J,b1⟩:=R1;go_upto_region 6 with(go_at_call 204;refine(af _).mono ?_;rintro e w1 ⟨rfl,a8⟩;have a6:=Hd a8;clear a8 q0 q1 q4 r0 r1)
    have ad:=Hd (a7.next (Aj.AJ a6));have bb:=Hd (aj.later a6);obtain⟨s0,s1,s2⟩:=HS w1 ad;have i1:(0:Int)<=(x:Int):=by omega
    have bt:x<g.top+1:=by omega
    have i3:(0:Int)<=(j:Int)+1:=by omega
    have i4:(j:Int)+1<=(l.length:Int):=by omega
    have i5:(l.length:Int)<=(c:Int):=by omega
    have i6:IntKind.i64.wrap ((j:Int)+1)=(j:Int)+1:=by rw[IntKind.wrap_i64];omega
    generalize b8:g.top+1=t at *;have au:=Hd b8;have i2:(x:Int)<(t:Int):=by omega
    clear b8;have ag:Hid (∀y,Below w1 w1 y->y.cell? (F.q,4)=some (.slice (I,0) t a5)/\y.cell? (I,x)=some (.pointer (p.h,0))/\y.cell? (w,1)=some (.slice (some ⟨b,off,none⟩) l.length c)):=Hd (fun y i=>HS y (ad.next (Aj.AJ i)));have ay:Hid (∀y,Below w1 w1 y->() 188 #[(F.q,0),(p.h,0),.slice sa (l.length-(j+1)) (c-(j+1))] y fun e w'=>e=.returned (.tuple #[.bool J,.bool b1])/\Bw w' (g.nt+1) F.P o/\Aj (XP F.P) W0 w'):=Hd (fun y i=>by refine(be y (U.next (ad.next (Aj.AJ i))) (bb.later i)).mono ?_;rintro e w' ⟨he,h1,h2⟩;exact⟨he,h1,(ad.next (Aj.AJ i)).next (h2.one (mG R))⟩)
    go_region_held3 (fun y=>y.cell? (F.q,4)=some (.slice (I,0) t a5)/\y.cell? (I,x)=some (.pointer (p.h,0))/\y.cell? (w,1)=some (.slice (some ⟨b,off,none⟩) l.length c))
     (first|exact ag _ ⟨rfl,rfl,rfl,AF _,fun _ _=>rfl⟩|exact HK _ ⟨rfl,rfl,rfl,AF _,fun _ _=>rfl⟩)
     (first|(go_at_call 188;refine(ay w1.drew ⟨rfl,rfl,rfl,AF _,fun _ _=>rfl⟩).mono ?_;rintro e w2 ⟨rfl,b4,av⟩;have ae:=Hd b4;have a3:=Hd av;have HK:=Hd (fun(y:World) (i:Below w2 w2 y)=>HS y (av.next (Aj.AJ i)));clear b4 av))
    clear ag ay HK b7 s0 s1 s2 i3 i4 i5 i6;cases b1 with
    | false=>
     have T:=Hd (ao o J rfl);rw[<-au.out]at T;clear aq ao;cases m<;>cases J
     all_goals go_wp2_with fail
     all_goals go_roundw
     all_goals first
      | exact⟨j+1,o,false,by omega,by go_num,rfl,ae,a3,T⟩
      | exact⟨j+1,o,true,by omega,by go_num,rfl,ae,a3,T⟩
      | (simp[intOf];omega)
    | true=>
     have T:=Hd (aq o J rfl);have b0:Hid (∀y,Aj (XP F.P) W0 y->Bw y (g.nt+1) F.P o->() 162 #[(p.h,0),(pl.h,0)] y fun e w'=>e=.returned (.bool (o.getD (t+x) 0|||o.getD (t+left) 0 != o.getD (t+x) 0))/\Bw w' (g.nt+1) F.P (o.set (t+x) (o.getD (t+x) 0|||o.getD (t+left) 0))/\Aj (XP F.P) W0 w'):=Hd (fun y hc i=>by
      refine(He (i.at_ _ p R) (i.at_ _ pl al) ?_).mono ?_
      ·rw[i.room p (mG R),i.room pl (mG al)]
      ·rintro e w' ⟨he,h1,h2⟩
       exact⟨he,i.EY R h1 h2,hc.next (h2.one (mG R))⟩)
     clear aq ao;generalize (o.getD (t+x) 0|||o.getD (t+left) 0 != o.getD (t+x) 0)=b2 at *;generalize o.set (t+x) (o.getD (t+x) 0|||o.getD (t+left) 0)=C2 at *;obtain⟨s0,s1,s2,s3⟩:=ar w2 a3;have i7:(left:Int)<(t:Int):=by have:=au.out;omega
     have i8:(0:Int)<=(left:Int):=by omega
     rw[<-au.out]at T;cases b2
     ·go_upto_region 8 with fail
      have ag:Hid (∀y,Below w2 w2 y->y.cell? (F.q,4)=some (.slice (I,0) t a5)/\y.cell? (I,x)=some (.pointer (p.h,0))/\y.cell? (I,left)=some (.pointer (pl.h,0))/\y.cell? (w,0)=some (.int .i64 left)):=Hd (fun y i=>ar y (a3.next (Aj.AJ i)));have ak:=Hd (b0 w2.drew a3.drew (ae.later ⟨rfl,rfl,rfl,AF _,fun _ _=>rfl⟩))
      go_region_held3 (fun y=>y.cell? (F.q,4)=some (.slice (I,0) t a5)/\y.cell? (I,x)=some (.pointer (p.h,0))/\y.cell? (I,left)=some (.pointer (pl.h,0))/\y.cell? (w,0)=some (.int .i64 left))
       (first|exact ag _ ⟨rfl,rfl,rfl,AF _,fun _ _=>rfl⟩|exact HK _ ⟨rfl,rfl,rfl,AF _,fun _ _=>rfl⟩)
       (first|(go_at_call 162;refine ak.mono ?_;rintro e w3 ⟨rfl,a9,a4⟩;have ai:=Hd a9;have ah:=Hd a4;have HK:=Hd (fun(y:World) (i:Below w3 w3 y)=>ar y (a4.next (Aj.AJ i)));clear a9 a4))
      cases m<;>(
      go_wp2_with fail
      go_roundw
      all_goals first
       | exact⟨j+1,C2,_,by omega,by go_num,rfl,ai,ah,T⟩
       | (simp[intOf];omega))
     ·go_upto_region 8 with fail
      have ak:=Hd (b0 w2.drew a3.drew (ae.later ⟨rfl,rfl,rfl,AF _,fun _ _=>rfl⟩));first
       | (go_region_law (first|(go_simp;go_at_call 162;refine ak.mono ?_;rintro e w3 ⟨rfl,a9,a4⟩;have ai:=Hd a9;have ah:=Hd a4;clear a9 a4)))
       | fail
      all_goals (
       cases m<;>(
       go_wp2_with fail
       go_roundw
       all_goals first
        | exact⟨j+1,C2,_,by omega,by go_num,rfl,ai,ah,T⟩
        | (simp[intOf];omega)))
  ·obtain rfl:j=l.length:=by omega
   have e:=a1.out;rw[List.drop_length,ET]at e;cases e
   go_wp2_with fail
   go_ret;exact⟨rfl,aj,U.next a7⟩
structure Bx(w0 wr:World)(F:Fs)(g:Gz)(E:Nat)(C:List Nat):Prop where
 at_:DE wr F g E
 AK:Bw wr (g.nt+1) F.P C
 ne:∀p∈F.P,F.e.wb≠p.wb
 new:w0.heap.size<=F.q/\w0.heap.size<=F.e.h/\w0.heap.size<=F.e.wb/\∀p∈F.P,w0.heap.size<=p.h/\w0.heap.size<=p.wb
 below:Below w0 w0 wr
variable{F:Fs}{g:Gz}{E:Nat}{C:List Nat}
def Bx.later{w:World}(h:Bx j w F g E C)(i:Below w w w'):Bx j w' F g E C:=
 ⟨h.at_.later i,h.AK.later i,h.ne,h.new,h.below.trans (i.mono h.below.size)⟩
def Bx.EY{l w:World}{i:List Nat}(h:Bx l w F g E C)(j:Aj (XP F.P) w w')(o:Bw w' (g.nt+1) F.P i):Bx l w' F g E i:=
 ⟨h.at_.RX h.AK j h.ne,o,h.ne,h.new,h.below.trans (j.below h.below.size (fun k J I=>by obtain⟨p,t,rfl⟩:=I;have:=(h.new.2.2.2 p t).2;omega))⟩
def Bx.empty{t w:World}{l:Nat}(h:Bx t w F g E C)(i:Aj F.e.X w w')(J:AP w' F.e l):Bx t w' F g l C:=by
 refine⟨⟨i.Ap h.at_.Ap ?_,J,h.at_.en,h.at_.Ia,i.own h.at_.bv ?_,i.own h.at_.hv ?_,h.at_.top⟩,h.AK.AE i ?_,h.ne,h.new,h.below.trans (i.below h.below.size ?_)⟩
 ·exact Ah.Bf h.at_.Ap h.at_.e.words (by decide)
 ·exact fun k j e=>Ej h.at_.bv h.at_.e.words (by decide) (by rw[j,show k=F.e.wb from e])
 ·exact fun k j e=>Ej h.at_.hv h.at_.e.words (by decide) (by rw[j,show k=F.e.wb from e])
 ·intro p o
  obtain⟨S,I⟩:=h.AK.mem o;exact⟨I.head_ne h.at_.e,fun e=>h.ne p o (show F.e.wb=p.wb from e.symm)⟩
 ·intro k j e
  have:=h.new.2.2.1;have P:k=F.e.wb:=e;omega
def Bw.append{w:World}{n:Nat}{P Q:List AH}{D:List Nat}(h:Bw w n P C)(k:Bw w n Q D)(t:∀p∈P,∀q∈Q,p.wb≠q.wb):Bw w n (P++Q) (C++D):=by
 refine⟨by simp[h.len,k.len],?_,?_,?_⟩
 ·intro p j
  rcases mA.1 j with j|j
  ·exact h.room p j
  ·exact k.room p j
 ·intro i p j
  by_cases l:i<P.length
  ·rw[gL l]at j
   rw[dG,gL (by rw[<-h.len];exact l),<-dG];exact h.at_ i p j
  ·rw[List.getElem?_append_right (by omega)]at j
   rw[dG,List.getElem?_append_right (by rw[<-h.len];omega),<-dG,<-h.len];exact k.at_ _ p j
 ·rw[By,List.nodup_append]
  refine⟨h.apart,k.apart,?_⟩;intro a ha b o;obtain⟨p,j,rfl⟩:=List.mem_map.1 ha;obtain⟨q,I,rfl⟩:=List.mem_map.1 o;exact t p j q I
structure J1(a b:Nat)(w:World)(n k:Nat)(o:Value)(P:List AH):Prop where
 row:∃A c,o=.slice A k c
 len:P.length=k
 pr:Jj w 0 o P
 AK:Bw w n P (List.replicate k 0)
 Fm:∀p∈P,(a<=p.h/\p.h<b)/\(a<=p.wb/\p.wb<b)
variable{w:World}{o:Value}{b:Nat}
def LP.at_{wr:World}{n k:Nat}(h:LP w n k o wr):∃P,J1 w.heap.size wr.heap.size wr n k o P:=by obtain⟨A,c,P,rfl,t,C,j,l⟩:=h.row;exact⟨P,⟨_,_,rfl⟩,t,EP C (AX _),j,fun p i=>⟨⟨(l p i).1,(j.lt i).1⟩,(l p i).2,(j.lt i).2⟩⟩
def J1.later{a:Nat}{n k:Nat}{P:List AH}(h:J1 a b w n k o P)(i:Below w w w'):J1 a b w' n k o P:=
 ⟨h.row,h.len,AS h.pr i,h.AK.later i,h.Fm⟩
def Bx.make{t:World}{e:AH}{R U:Value}{q C J I P:Nat}{P1 P2:List AH}(a0:Ah t q 292 #[g.nt,g.top,e.v,R,U])(he:AP t e 0)(a1:e.n=g.top+1)(ht:g.top<=1000)
  (l:J1 C J t (g.nt+1) (g.top+1) R P1) (o:J1 I P t (g.nt+1) (g.top+1) U P2) (hb:Below j j t) (a3:J<=I\/P<=C) (a4:e.wb<C\/J<=e.wb) (a5:e.wb<I\/P<=e.wb)
  (n1:j.heap.size<=q/\j.heap.size<=e.h/\j.heap.size<=e.wb/\j.heap.size<=C/\j.heap.size<=I):Bx j t ⟨q,e,P1++P2,R,U⟩ g 0 (List.replicate (2*(g.top+1)) 0):=by
 have T:=l.len;have a2:=o.len;refine⟨⟨a0,he,a1,by simp[T,a2];omega,?_,?_,ht⟩,?_,?_,⟨n1.1,n1.2.1,n1.2.2.1,?_⟩,hb⟩
 ·simp only
  rw[List.take_left' T];exact l.pr
 ·simp only
  rw[List.drop_left' T];exact o.pr
 ·rw[show 2*(g.top+1)=(g.top+1)+(g.top+1) by omega,<-List.replicate_append_replicate]
  refine l.AK.append o.AK ?_;intro p i r hr;have x1:=(l.Fm p i).2;have x2:=(o.Fm r hr).2;omega
 ·intro p i
  rcases mA.1 i with i|i
  ·have:=(l.Fm p i).2
   simp only;omega
  ·have:=(o.Fm p i).2
   simp only;omega
 ·intro p i
  rcases mA.1 i with i|i
  ·have:=l.Fm p i
   omega
  ·have:=o.Fm p i
   omega
def XS(F:Fs)(b:Nat):Prop:=b=F.e.wb\/XP F.P b
def Bx.no{I:World}(h:Bx I w F g E C){t:TypeId}{cs:Array Value}(i:Ah w b t cs)(j:t≠256):¬XS F b:=by
 rintro(rfl|⟨p,o,rfl⟩)
 ·exact Ah.Bf i h.at_.e.words j rfl
 ·obtain⟨S,l⟩:=h.AK.mem o
  exact Ah.Bf i l.words j rfl
def Bx.cell{R:World}(h:Bx R w F g E C)(I:Aj (XS F) w w'){o:Nat}(t:b<w.heap.size)(i:w.cell? (b,o)=some v)(j:∀z,v ≠ .int .u64 z):w'.cell? (b,o)=some v:=by
 have P:¬XS F b:=by
  rintro(rfl|⟨p,J,rfl⟩)
  ·exact NJ h.at_.e i j rfl
  ·obtain⟨S,l⟩:=h.AK.mem J
   exact NJ l i j rfl
 rw[World.cell?_of_block (w:=w) (I.block b t P)];exact i
def M5{o:Nat}(h:w.cell? (b,o)=some v):b<w.heap.size:=World.block_lt_of_cell? w _ h
def Bx.put{t:World}(h:Bx t w F g E C){i x:Nat}(o:F.P[i]?=some p)(R:x<g.nt+1) :
  () 106 #[(p.h,0),x] w fun e w'=>(∃b,e=.returned (.bool b))/\Bx t w' F g E (C.set i (C.getD i 0|||2 ^ x))/\Aj (XS F) w w':=by
 have l:=mG o;refine(Nh (h.AK.at_ i p o) (by rw[h.AK.room p l];exact R)).mono ?_;rintro e w' ⟨J,P,j⟩;exact⟨⟨_,J⟩,h.EY (j.one l) (h.AK.EY o P j),(j.one l).mono fun b I=>.inr I⟩
def Bx.Yg(h:Bx j w F g E C){x:Nat}(t:x<=g.top) :
  () 106 #[(F.e.h,0),x] w fun e w'=>e=.returned (.bool (!E.testBit x))/\Bx j w' F g (E|||2 ^ x) C/\Aj (XS F) w w':=by
 refine(Nh h.at_.e (i:=x) (by rw[h.at_.en];omega)).mono ?_;rintro e w' ⟨o,p,i⟩;exact⟨o,h.empty i p,i.mono fun b l=>.inl l⟩
def Bx.line{J:World}(h:Bx J w F g E C){i:Nat}(t:F.P[i]?=some p){I:Value}(U:BD w I l)(hx:∀x∈l,x<=g.top) :
  () 188 #[(F.q,0),(p.h,0),I] w fun e w'=>e=.returned (.tuple #[.bool (DC E i l C false).2.1,.bool (DC E i l C false).2.2])/\Bx J w' F g E (DC E i l C false).1/\Aj (XS F) w w':=by
 have j:=mG t;refine(OW h.at_ h.AK (List.prefix_refl _) t (h.ne p j) U hx).mono ?_;rintro e w' ⟨R,T,o⟩;exact⟨R,h.EY (o.one j) T,(o.one j).mono fun b P=>.inr P⟩
def Bx.Bo(h:Bx j w F g E C)(I:BD w rv l)(P:∀x∈l,x<=g.top)(J:left<=g.top) :
  () 189 #[(F.q,0),.agg #[left,rv]] w fun e w'=>e=.returned (.bool (ET g E (g.top+1) left l C false).2)/\Bx j w' F g E (ET g E (g.top+1) left l C false).1/\Aj (XS F) w w':=by
 refine(bF h.at_ h.AK h.ne I P J).mono ?_;rintro e w' ⟨p,t,i⟩;exact⟨p,h.EY i t,i.mono fun b o=>.inr o⟩
def GG(g:Gz)(j:Nat):List Nat:=(List.range (g.top+1)).map (fun x=>if x<j then 2 ^ x else 0)++List.replicate (g.top+1) 0
def XU(g:Gz):GG g 0=List.replicate (2*(g.top+1)) 0:=by
 unfold GG;have e:List.replicate (2*(g.top+1)) 0=List.replicate (g.top+1) 0++List.replicate (g.top+1) 0:=by rw[List.replicate_append_replicate];congr 1;omega
 rw[e];congr 1;refine List.eq_replicate_iff.2 ⟨by simp,?_⟩;intro b i;obtain⟨x,j,rfl⟩:=List.mem_map.1 i;rw[if_neg (Nat.not_lt_zero _)]
def fN(g:Gz):GG g (g.nt+1)=JM g:=by
 unfold GG JM;congr 1;apply List.map_congr_left;intro x i;by_cases h:x<=g.nt
 ·rw[if_pos (by omega),if_pos h]
 ·rw[if_neg (by omega),if_neg h]
def VT{j:Nat}(C:j<=g.top):(GG g j).set j ((GG g j).getD j 0|||2 ^ j)=GG g (j+1):=by
 have e:(GG g j).getD j 0=0:=by unfold GG;rw[dG,gL (by simp;omega),pG,List.getElem?_range (by omega)];simp
 rw[e,Nat.zero_or];unfold GG;rw[List.set_append_left _ _ (by simp;omega)];congr 1;apply List.ext_getElem
 ·simp
 ·intro i p t
  rw[List.getElem_set];simp only[List.getElem_map,List.getElem_range];split
  ·rename_i l
   rw[if_pos (by omega),l]
  ·rename_i l
   by_cases o:i<j
   ·rw[if_pos o,if_pos (by omega)]
   ·rw[if_neg o,if_neg (by omega)]
def gG{w0 i:World}(h:Bx w0 w F g E C){t:AH}(j:Below w w i)(ht:AP i t 0)(hn:t.n=g.nt+1)(a0:w.heap.size<=t.wb){J:Value}(hl:BD i J l)(I:∀x∈l,x<=g.top)(a2:F.P.length=C.length) :
  () 188 #[(F.q,0),(t.h,0),J] i fun e w'=>(∃m,e=.returned (.tuple #[.bool m,.bool (Dp E C l 0).2]))/\AP w' t (Dp E C l 0).1/\Aj t.X i w':=by
 have T:=(h.AK.push j ht hn a0)
 have a4:=h.at_.Ia;have p:(F.P++[t])[C.length]?=some t:=by rw[<-a2];simp
 have a1:F.e.wb≠t.wb:=by have:=h.at_.e.words.lt;omega
 have o:=OW (h.at_.later j) T ⟨[t],rfl⟩ p a1 hl I;obtain⟨m',hm⟩:=Sm (E:=E) (C:=C) l 0 false (fun x a3=>by have:=I x a3;omega);rw[hm]at o;refine o.mono ?_;rintro e w' ⟨R,U,P⟩;refine⟨⟨m',R⟩,?_,P⟩;have:=U.at_ C.length t p;simpa using this
def bV{w0:World}(h:Bx w0 w F g E C){t:Value}(p:BD w t l)(hx:∀x∈l,x<=g.top)(a4:g.nt<=120) :
  () 154 #[(F.q,0),t] w fun e w'=>∃A c,e=.returned (.tuple #[.slice A (Bp (g.nt+1) (Dp E C l 0).1).length c,.bool (Dp E C l 0).2])/\BD w' (.slice A (Bp (g.nt+1) (Dp E C l 0).1).length c) (Bp (g.nt+1) (Dp E C l 0).1)/\Below w w w':=by
 have HS:=Hd h;have a0:Hid (() 157 #[.int .i64 ((g.nt:Int)+1)] w fun e w'=>e=.returned (w.heap.size+1,0)/\AP w' ⟨w.heap.size+1,w.heap.size,g.nt+1⟩ 0/\Below w w w'):=Hd (LO (w:=w) (n:=g.nt+1) (by omega) (by omega));have U:Hid (∀o,Below w w o->AP o ⟨w.heap.size+1,w.heap.size,g.nt+1⟩ 0->() 188 #[(F.q,0),(w.heap.size+1,0),t] o fun e w'=>(∃m,e=.returned (.tuple #[.bool m,.bool (Dp E C l 0).2]))/\AP w' ⟨w.heap.size+1,w.heap.size,g.nt+1⟩ (Dp E C l 0).1/\Below w w w'):=Hd (fun o i ht=>by refine(gG h i ht rfl (AF _) (p.later i) hx h.AK.len).mono ?_;rintro e w' ⟨he,j,hc⟩;exact⟨he,j,i.trans (hc.below i.size (fun k hk e=>by have e2:k=w.heap.size:=e;omega))⟩)
 obtain⟨q0,-,-,-,-⟩:=h.at_.cells;have a3:=KO (g.nt+1) (Dp E C l 0).1;obtain⟨⟨Al,cl,rfl,-⟩,-,-⟩:=id p;clear h p;go_enter Tryz.func154,Tryz.ntmps154
 go_wp2_with (first
  | (
   go_at_call 157;refine a0.mono ?_;rintro e o ⟨rfl,j,i⟩
   have a1:=Hd j;have R:=Hd i;clear j i)
  | (
   go_at_call 188;refine(U _ R a1).mono ?_;rintro e w2 ⟨⟨m,rfl⟩,j,i⟩
   have a2:=Hd j;have I:=Hd i;clear j i)
  | (
   go_at_call 164;refine(RS a2).mono ?_;rintro e w3 ⟨a5,rfl,A,c,rfl,J,i⟩
   have HR:=Hd J;have T:=Hd (I.trans (i.mono I.size));clear J i))
 go_ret2
 have P:=HR.out;simp only[lM]at P;refine⟨A,c,by simp,Hu P (by omega),T⟩
section
variable {w:World} {v:Value} {g:Gm}
end
end Go.Proofs.YtlogpnoioimhjaaGreatDoor
