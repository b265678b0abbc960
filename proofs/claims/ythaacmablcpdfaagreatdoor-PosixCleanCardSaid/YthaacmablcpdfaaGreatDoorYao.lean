/- What stands behind a right side's symbol. The sets of a grammar while they are mad. What a list of symbols begins with. A symbol's name. Symbols and rules. Whether two grammars are the same. What Check asks. What Check asks. What Check asks. What Check asks. Check and Ordered. -/
import Derived.Test.YthaacmablcpdfaaGreatDoorYaf
import Derived.Deep.RegionHeld3
import Derived.Test.YthaacmablcpdfaaGreatDoorYae
import Derived.Deep.RegionLaw
import Derived.BigRegion
import Derived.Test.YthaacmablcpdfaaGreatDoorYac
import Derived.Test.YthaacmablcpdfaaGreatDoorYn
set_option linter.unusedVariables false
set_option maxRecDepth 100000
set_option maxHeartbeats 16000000
namespace Go.Proofs.YthaacmablcpdfaaGreatDoor
open Go.RowKit
def XP(P:List AA)(b:Nat):Prop:=∃p∈P,b=p.wb
theorem OE{w:World}{s:AA}{S b o:Nat}{v:Value}(h:AK w s S)(j:w.cell? ⟨b,o,none⟩=some v)(l:∀z,v ≠ .int .u64 z):b≠s.wb:=by rintro rfl;have i:=h.words.cell o;rw[j]at i;unfold CK at i;rw[List.getElem?_toArray,pG]at i;obtain⟨z,_,p⟩:=Option.map_eq_some_iff.1 i.symm;exact l _ p.symm
theorem Bu.mem{w:World}{n:Nat}{P:List AA}{C:List Nat}(h:Bu w n P C){p:AA}(l:p∈P):∃S,AK w p S:=by obtain⟨i,j,rfl⟩:=List.mem_iff_getElem.1 l;exact⟨_,h.at_ i _ (eG j)⟩
theorem Bu.cell{w w':World}{n:Nat}{P:List AA}{C:List Nat}(h:Bu w n P C)(t:Aj (XP P) w w'){b o:Nat}{v:Value}(l:b<w.heap.size)(i:w.cell? ⟨b,o,none⟩=some v)(I:∀z,v ≠ .int .u64 z):w'.cell? ⟨b,o,none⟩=some v:=by
 have R:¬XP P b:=by rintro⟨p,J,rfl⟩;obtain⟨S,j⟩:=h.mem J;exact OE j i I rfl
 rw[World.cell?_of_block (w:=w) (t.block b l R)];exact i
theorem Bu.WG{w w':World}{n:Nat}{P:List AA}{C:List Nat}(h:Bu w n P C)(i:Aj (XP P) w w'){v:Value}{l:List Nat}(I:Bz w v l):Bz w' v l:=by obtain⟨⟨A,c,T,t⟩,R,J⟩:=I;refine⟨⟨A,c,T,fun k x U=>?_⟩,R,J⟩;obtain⟨b,off,o,j,p⟩:=t k x U;exact⟨b,off,o,A0 j i.size,h.cell i j p (fun z e=>by cases e)⟩
theorem Dz.O8{w w':World}{F:Fs}{g:Gz}{E n:Nat}{P:List AA}{C:List Nat}(h:Dz w F g E)(U:Bu w n P C)(o:Aj (XP P) w w')(a0:∀p∈P,F.e.wb≠p.wb):Dz w' F g E:=by
 have t:∀b,XP P b->∃l,Ah w b 156 l:=fun b i=>by obtain⟨p,J,rfl⟩:=i;obtain⟨S,R⟩:=U.mem J;exact⟨_,R.words⟩
 refine⟨o.An h.An ?_,h.e.Aw o ?_ ?_,h.en,h.Iq,o.own h.bv ?_,o.own h.hv ?_,h.top⟩
 ·intro i
  obtain⟨l,j⟩:=t _ i;exact Ah.A8 h.An j (by decide) rfl
 ·intro i
  obtain⟨l,j⟩:=t _ i;exact Ah.A8 h.e.head j (by decide) rfl
 ·rintro⟨p,J,T⟩
  exact a0 p J T
 ·intro k I i
  obtain⟨l,j⟩:=t _ i;exact DX h.bv j (by decide) I
 ·intro k I i
  obtain⟨l,j⟩:=t _ i;exact DX h.hv j (by decide) I
theorem Aj.one{w w':World}{P:List AA}{p:AA}(h:Aj p.X w w')(j:p∈P):Aj (XP P) w w':=h.mono fun b i=>⟨p,j,i⟩
theorem Bj.drop{o:Type}{E:o->Value}{w:World}{b off n c:Nat}{l:List o}(h:Bj E w (.slice (some ⟨b,off,none⟩) n c) l)(k:Nat)(U:k<=n):Bj E w (.slice (some ⟨b,off+k,none⟩) (n-k) (c-k)) (l.drop k):=by
 obtain⟨⟨R,c1,P,t⟩,hs,J⟩:=h;have a0:=(J _ _ _ rfl).1;cases P
 refine⟨⟨_,c-k,by rw[List.length_drop],fun i x j=>?_⟩,by rw[List.length_drop];omega,fun _ _ _ e=>by cases e;exact⟨by omega,fun e=>by cases e⟩⟩;rw[List.getElem?_drop]at j;obtain⟨T,a1,p,I,C⟩:=t (k+i) x j;cases p
 exact⟨b,off+k,rfl,I,by rw[show off+k+i=off+(k+i) by omega];exact C⟩
theorem Bj.cut{i:Type}{E:i->Value}{w:World}{b off n c:Nat}{l:List i}(h:Bj E w (.slice (some ⟨b,off,none⟩) n c) l)(k:Nat)(j:k<=n):Bj E w (.slice (if c=k then some ⟨b,off,none⟩ else some ⟨b,off+k,none⟩) (n-k) (c-k)) (l.drop k):=by
 have J:=(h.room _ _ _ rfl).1;split
 ·rename_i C
  have I:n=l.length:=by
   obtain⟨⟨t,c1,p,-⟩,-,-⟩:=h;cases p
   rfl
  have o:l.drop k=[]:=List.drop_eq_nil_of_le (by omega);rw[o,show n-k=0 by omega];exact Bj.nil w _ _ (fun e=>by cases e)
 ·exact h.drop k j
def Qk(w:World)(n:Nat)(P:List AA)(r:List Nat×Bool)(e:Ending)(w':World):Prop:=e=.returned (.bool r.2)/\Bu w' n P r.1/\Aj (XP P) w w'
theorem VS{w:World}{F:Fs}{g:Gz}{E:Nat}{C:List Nat}(h:Dz w F g E)(hf:Bu w (g.nt+1) F.P C)(aw:∀p∈F.P,F.e.wb≠p.wb){rv:Value}{left:Nat}{l:List Nat}(hl:Bz w rv l)(hx:∀x∈l,x<=g.top)(bk:left<=g.top) :
  Calls Tryz.prog 198 #[.pointer (some ⟨F.q,0,none⟩),.agg #[.int .i64 left,rv]] w (Qk w (g.nt+1) F.P (EL g E (g.top+1) left l C false)):=by
 have a0:Hid (∀y,Aj (XP F.P) w y->Dz y F g E):=Hd (fun y i=>h.O8 hf i aw);have az:Hid (∀y,Aj (XP F.P) w y->Bz y rv l):=Hd (fun y i=>hf.WG i hl);have HX:=Hd hx;have ba:=Hd hf;have bf:=Hd aw;have br:=h.top;obtain⟨bg,bc,I,a5,-,aa,-,bo⟩:=h.open_;have bm:=h.Iq;obtain⟨⟨A,c,rfl,-⟩,hs,b6⟩:=id hl;have bq:=(b6 _ _ _ rfl).1;have bh:=Hd (Ah.new w 65 #[.int .i64 left,.slice A l.length c]);have U:Hid (Aj (XP F.P) w (w.alloc (.cells #[.int .i64 left,.slice A l.length c] 65))):=Hd ((Aj.refl _ w).alloc _);have an:Hid (∀y,Aj (XP F.P) (w.alloc (.cells #[.int .i64 left,.slice A l.length c] 65)) y->y.cell? ⟨w.heap.size,0,none⟩=some (.int .i64 left)/\y.cell? ⟨w.heap.size,1,none⟩=some (.slice A l.length c)):=Hd (fun y i=>by
  have hb:=i.An bh.out (by rintro⟨p,hp,e⟩;have:=(ba.out.lt hp).2;omega)
  exact⟨hb.cell 0,hb.cell 1⟩)
 have bd:=Hd (hf.later (Ay w (.cells #[.int .i64 left,.slice A l.length c] 65)));clear hx hf aw h hl b6;unfold Qk;generalize hR:EL g E (g.top+1) left l C false=bi;have HR:=Hd hR;clear hR;obtain⟨C',m'⟩:=bi;simp only;go_enter Tryz.func198,Tryz.ntmps198
 go_wp2_with fail
 generalize w.alloc (.cells #[.int .i64 left,.slice A l.length c] 65)=W0 at *;go_loopw [5,13] (fun mo ii wr=>∃(j:Nat) (P:List Nat) (m:Bool),j<=l.length/\ii=.int .i64 j/\mo=.bool m/\Hid (Bu wr (g.nt+1) F.P P)/\Hid (Aj (XP F.P) W0 wr)/\Hid (EL g E (g.top+1) left (l.drop j) P m=(C',m'))) (fun _ ii _=>l.length-(intOf ii).toNat)
 case atStart=>exact⟨0,C,false,AP _,rfl,rfl,bd,Hd (Aj.refl _ _),HR⟩
 case round=>
  obtain⟨j,P,m,hj,rfl,rfl,aj,a7,a1⟩:=hrel;by_cases bl:j<l.length
  ·have ab:=eG bl
   generalize l[j]=x at ab;have b9:=HX.out x (mG ab);have b3:=Er ab;rw[b3]at a1;have ax:=Hd (U.out.next a7.out);obtain⟨b,off,rfl,bp,bn⟩:∃b off,A=some ⟨b,off,none⟩/\b<wr.heap.size/\wr.cell? ⟨b,off+j,none⟩=some (.int .i64 x):=by
    obtain⟨⟨A',c',e,hc⟩,-,-⟩:=az.out wr ax.out;cases e
    exact hc j x ab
   obtain⟨q0,q1,-,-,q4⟩:=(a0.out wr ax.out).cells;obtain⟨r0,r1⟩:=an.out wr a7.out;have af:Hid (∀y,Calls Tryz.prog 216 #[.agg #[.int .i64 g.nt,.int .i64 g.top],.int .i64 x] y (Bb y (g.AV x))):=Hd (fun y=>cZ y g.nt g.top x);clear ab b3;cases a2:g.AV x with
   | false=>
    rw[a2]at af;have T:Hid (EL g E (g.top+1) left (l.drop (j+1)) P m=(C',m')):=Hd (by have:=a1.out;rw[EL,if_neg (by simp[a2])]at this;exact this);clear a1 a2;go_wp2_with (go_at_call 216;refine(af.out _).mono ?_;rintro e w1 ⟨rfl,a8⟩;have a6:=Hd a8;clear a8)
    go_roundw
    case rel=>exact⟨j+1,P,m,by omega,by go_num,rfl,Hd (aj.out.later a6.out),Hd (a7.out.next (Aj.AH a6.out)),T⟩
    case measure=>simp[intOf];omega
   | true=>
    rw[a2]at af;obtain⟨p,hp⟩:∃p,F.P[g.top+1+x]?=some p:=⟨_,eG (by omega)⟩
    obtain⟨pl,b5⟩:∃p,F.P[g.top+1+left]?=some p:=⟨_,eG (by omega)⟩
    have R:=Hd hp;have al:=Hd b5;obtain⟨sa,b7⟩:∃sa,(if c=j+1 then some (⟨b,off,none⟩:Addr) else some ⟨b,off+(j+1),none⟩)=sa:=⟨_,rfl⟩
    have be:Hid (∀y,Aj (XP F.P) w y->Bu y (g.nt+1) F.P P->Calls Tryz.prog 197 #[.pointer (some ⟨F.q,0,none⟩),.pointer (some ⟨p.h,0,none⟩),.slice sa (l.length-(j+1)) (c-(j+1))] y (NO y (g.nt+1) F.P p (DF E (g.top+1+x) (l.drop (j+1)) P false))):=Hd (fun y i bj=>M7 (a0.out y i) bj (List.prefix_refl _) R.out (bf.out p (mG R.out)) (by have:=(az.out y i).cut (j+1) (by omega);rwa [b7]at this) (fun z hz=>HX.out z (List.mem_of_mem_drop hz)))
    have HS:Hid (∀y,Aj (XP F.P) W0 y->y.cell? ⟨F.q,4,none⟩=some (.slice (some ⟨I,0,none⟩) (g.top+1) a5)/\y.cell? ⟨I,x,none⟩=some (.pointer (some ⟨p.h,0,none⟩))/\y.cell? ⟨w.heap.size,1,none⟩=some (.slice (some ⟨b,off,none⟩) l.length c)):=Hd (fun y i=>by obtain⟨-,-,-,-,z4⟩:=(a0.out y (U.out.next i)).cells;rw[aa]at z4;exact⟨z4,(a0.out y (U.out.next i)).Mp aa R.out b9,(an.out y i).2⟩)
    have ar:Hid (∀y,Aj (XP F.P) W0 y->y.cell? ⟨F.q,4,none⟩=some (.slice (some ⟨I,0,none⟩) (g.top+1) a5)/\y.cell? ⟨I,x,none⟩=some (.pointer (some ⟨p.h,0,none⟩))/\y.cell? ⟨I,left,none⟩=some (.pointer (some ⟨pl.h,0,none⟩))/\y.cell? ⟨w.heap.size,0,none⟩=some (.int .i64 left)):=Hd (fun y i=>by obtain⟨-,-,-,-,z4⟩:=(a0.out y (U.out.next i)).cells;rw[aa]at z4;exact⟨z4,(a0.out y (U.out.next i)).Mp aa R.out b9,(a0.out y (U.out.next i)).Mp aa al.out bk,(an.out y i).1⟩)
    have aq:Hid (∀o J,DF E (g.top+1+x) (l.drop (j+1)) P false=(o,J,true)->EL g E (g.top+1) left (l.drop (j+1)) (o.set (g.top+1+x) (o.getD (g.top+1+x) 0|||o.getD (g.top+1+left) 0)) (m||((o.getD (g.top+1+x) 0|||o.getD (g.top+1+left) 0) != o.getD (g.top+1+x) 0||J))=(C',m')):=Hd (fun o J h1=>by have:=a1.out;rw[EL,if_pos a2,h1]at this;exact this);have ao:Hid (∀o J,DF E (g.top+1+x) (l.drop (j+1)) P false=(o,J,false)->EL g E (g.top+1) left (l.drop (j+1)) o (m||J)=(C',m')):=Hd (fun o J h1=>by have:=a1.out;rw[EL,if_pos a2,h1]at this;exact this)
    clear a1 a2 hp b5;generalize DF E (g.top+1+x) (l.drop (j+1)) P false=R1 at *;obtain⟨o,J,b1⟩:=R1;go_upto_region 6 with(go_at_call 216;refine(af.out _).mono ?_;rintro e w1 ⟨rfl,a8⟩;have a6:=Hd a8;clear a8 q0 q1 q4 r0 r1)
    have ad:=Hd (a7.out.next (Aj.AH a6.out));have bb:=Hd (aj.out.later a6.out);obtain⟨s0,s1,s2⟩:=HS.out w1 ad.out;have i1:(0:Int)<=(x:Int):=by omega
    have bt:x<g.top+1:=by omega
    have i3:(0:Int)<=(j:Int)+1:=by omega
    have i4:(j:Int)+1<=(l.length:Int):=by omega
    have i5:(l.length:Int)<=(c:Int):=by omega
    have i6:IntKind.i64.wrap ((j:Int)+1)=(j:Int)+1:=by rw[IntKind.wrap_i64];omega
    generalize b8:g.top+1=t at *;have au:=Hd b8;have i2:(x:Int)<(t:Int):=by omega
    clear b8;have ag:Hid (∀y,Below w1.heap.size w1 y->y.cell? ⟨F.q,4,none⟩=some (.slice (some ⟨I,0,none⟩) t a5)/\y.cell? ⟨I,x,none⟩=some (.pointer (some ⟨p.h,0,none⟩))/\y.cell? ⟨w.heap.size,1,none⟩=some (.slice (some ⟨b,off,none⟩) l.length c)):=Hd (fun y i=>HS.out y (ad.out.next (Aj.AH i)));have ay:Hid (∀y,Below w1.heap.size w1 y->Calls Tryz.prog 197 #[.pointer (some ⟨F.q,0,none⟩),.pointer (some ⟨p.h,0,none⟩),.slice sa (l.length-(j+1)) (c-(j+1))] y fun e w'=>e=.returned (.tuple #[.bool J,.bool b1])/\Bu w' (g.nt+1) F.P o/\Aj (XP F.P) W0 w'):=Hd (fun y i=>by refine(be.out y (U.out.next (ad.out.next (Aj.AH i))) (bb.out.later i)).mono ?_;rintro e w' ⟨he,h1,h2⟩;exact⟨he,h1,(ad.out.next (Aj.AH i)).next (h2.one (mG R.out))⟩)
    go_region_held3 (fun y=>y.cell? ⟨F.q,4,none⟩=some (.slice (some ⟨I,0,none⟩) t a5)/\y.cell? ⟨I,x,none⟩=some (.pointer (some ⟨p.h,0,none⟩))/\y.cell? ⟨w.heap.size,1,none⟩=some (.slice (some ⟨b,off,none⟩) l.length c))
     (first|exact ag.out _ ⟨rfl,rfl,rfl,AG _,fun _ _=>rfl⟩|exact HK.out _ ⟨rfl,rfl,rfl,AG _,fun _ _=>rfl⟩)
     (first|(go_at_call 197;refine(ay.out w1.drew ⟨rfl,rfl,rfl,AG _,fun _ _=>rfl⟩).mono ?_;rintro e w2 ⟨rfl,b4,av⟩;have ae:=Hd b4;have a3:=Hd av;have HK:=Hd (fun(y:World) (i:Below w2.heap.size w2 y)=>HS.out y (av.next (Aj.AH i)));clear b4 av))
    clear ag ay HK b7 s0 s1 s2 i3 i4 i5 i6;cases b1 with
    | false=>
     have T:=Hd (ao.out o J rfl);rw[<-au.out]at T;clear aq ao;cases m<;>cases J
     all_goals go_wp2_with fail
     all_goals go_roundw
     all_goals first
      | exact⟨j+1,o,false,by omega,by go_num,rfl,ae,a3,T⟩
      | exact⟨j+1,o,true,by omega,by go_num,rfl,ae,a3,T⟩
      | (simp[intOf];omega)
    | true=>
     have T:=Hd (aq.out o J rfl);have b0:Hid (∀y,Aj (XP F.P) W0 y->Bu y (g.nt+1) F.P o->Calls Tryz.prog 157 #[.pointer (some ⟨p.h,0,none⟩),.pointer (some ⟨pl.h,0,none⟩)] y fun e w'=>e=.returned (.bool (o.getD (t+x) 0|||o.getD (t+left) 0 != o.getD (t+x) 0))/\Bu w' (g.nt+1) F.P (o.set (t+x) (o.getD (t+x) 0|||o.getD (t+left) 0))/\Aj (XP F.P) W0 w'):=Hd (fun y hc i=>by
      refine(G2 (i.at_ _ p R.out) (i.at_ _ pl al.out) ?_).mono ?_
      ·rw[i.room p (mG R.out),i.room pl (mG al.out)]
      ·rintro e w' ⟨he,h1,h2⟩
       exact⟨he,i.EG R.out h1 h2,hc.next (h2.one (mG R.out))⟩)
     clear aq ao;generalize (o.getD (t+x) 0|||o.getD (t+left) 0 != o.getD (t+x) 0)=b2 at *;generalize o.set (t+x) (o.getD (t+x) 0|||o.getD (t+left) 0)=C2 at *;obtain⟨s0,s1,s2,s3⟩:=ar.out w2 a3.out;have i7:(left:Int)<(t:Int):=by have:=au.out;omega
     have i8:(0:Int)<=(left:Int):=by omega
     rw[<-au.out]at T;cases b2
     ·go_upto_region 8 with fail
      have ag:Hid (∀y,Below w2.heap.size w2 y->y.cell? ⟨F.q,4,none⟩=some (.slice (some ⟨I,0,none⟩) t a5)/\y.cell? ⟨I,x,none⟩=some (.pointer (some ⟨p.h,0,none⟩))/\y.cell? ⟨I,left,none⟩=some (.pointer (some ⟨pl.h,0,none⟩))/\y.cell? ⟨w.heap.size,0,none⟩=some (.int .i64 left)):=Hd (fun y i=>ar.out y (a3.out.next (Aj.AH i)));have ak:=Hd (b0.out w2.drew a3.out.drew (ae.out.later ⟨rfl,rfl,rfl,AG _,fun _ _=>rfl⟩))
      go_region_held3 (fun y=>y.cell? ⟨F.q,4,none⟩=some (.slice (some ⟨I,0,none⟩) t a5)/\y.cell? ⟨I,x,none⟩=some (.pointer (some ⟨p.h,0,none⟩))/\y.cell? ⟨I,left,none⟩=some (.pointer (some ⟨pl.h,0,none⟩))/\y.cell? ⟨w.heap.size,0,none⟩=some (.int .i64 left))
       (first|exact ag.out _ ⟨rfl,rfl,rfl,AG _,fun _ _=>rfl⟩|exact HK.out _ ⟨rfl,rfl,rfl,AG _,fun _ _=>rfl⟩)
       (first|(go_at_call 157;refine ak.out.mono ?_;rintro e w3 ⟨rfl,a9,a4⟩;have ai:=Hd a9;have ah:=Hd a4;have HK:=Hd (fun(y:World) (i:Below w3.heap.size w3 y)=>ar.out y (a4.next (Aj.AH i)));clear a9 a4))
      cases m<;>(
      go_wp2_with fail
      go_roundw
      all_goals first
       | exact⟨j+1,C2,_,by omega,by go_num,rfl,ai,ah,T⟩
       | (simp[intOf];omega))
     ·go_upto_region 8 with fail
      have ak:=Hd (b0.out w2.drew a3.out.drew (ae.out.later ⟨rfl,rfl,rfl,AG _,fun _ _=>rfl⟩));first
       | (go_region_law (first|(go_simp;go_at_call 157;refine ak.out.mono ?_;rintro e w3 ⟨rfl,a9,a4⟩;have ai:=Hd a9;have ah:=Hd a4;clear a9 a4)))
       | fail
      all_goals (
       cases m<;>(
       go_wp2_with fail
       go_roundw
       all_goals first
        | exact⟨j+1,C2,_,by omega,by go_num,rfl,ai,ah,T⟩
        | (simp[intOf];omega)))
  ·obtain rfl:j=l.length:=by omega
   have e:=a1.out;rw[List.drop_length,EL]at e;cases e
   go_wp2_with fail
   go_ret;exact⟨rfl,aj.out,U.out.next a7.out⟩
structure Br(w0 wr:World)(F:Fs)(g:Gz)(E:Nat)(C:List Nat):Prop where
 at_:Dz wr F g E
 AJ:Bu wr (g.nt+1) F.P C
 ne:∀p∈F.P,F.e.wb≠p.wb
 new:w0.heap.size<=F.q/\w0.heap.size<=F.e.h/\w0.heap.size<=F.e.wb/\∀p∈F.P,w0.heap.size<=p.h/\w0.heap.size<=p.wb
 below:Below w0.heap.size w0 wr
theorem Br.later{j w w':World}{F:Fs}{g:Gz}{E:Nat}{C:List Nat}(h:Br j w F g E C)(i:Below w.heap.size w w'):Br j w' F g E C:=
 ⟨h.at_.later i,h.AJ.later i,h.ne,h.new,h.below.trans (i.mono h.below.size)⟩
theorem Br.EG{l w w':World}{F:Fs}{g:Gz}{E:Nat}{C i:List Nat}(h:Br l w F g E C)(j:Aj (XP F.P) w w')(o:Bu w' (g.nt+1) F.P i):Br l w' F g E i:=
 ⟨h.at_.O8 h.AJ j h.ne,o,h.ne,h.new,h.below.trans (j.below h.below.size (fun k J I=>by obtain⟨p,t,rfl⟩:=I;have:=(h.new.2.2.2 p t).2;omega))⟩
theorem Br.empty{t w w':World}{F:Fs}{g:Gz}{E l:Nat}{C:List Nat}(h:Br t w F g E C)(i:Aj F.e.X w w')(J:AK w' F.e l):Br t w' F g l C:=by
 refine⟨⟨i.An h.at_.An ?_,J,h.at_.en,h.at_.Iq,i.own h.at_.bv ?_,i.own h.at_.hv ?_,h.at_.top⟩,h.AJ.Aw i ?_,h.ne,h.new,h.below.trans (i.below h.below.size ?_)⟩
 ·exact Ah.A8 h.at_.An h.at_.e.words (by decide)
 ·exact fun k j e=>DX h.at_.bv h.at_.e.words (by decide) (by rw[j,show k=F.e.wb from e])
 ·exact fun k j e=>DX h.at_.hv h.at_.e.words (by decide) (by rw[j,show k=F.e.wb from e])
 ·intro p o
  obtain⟨S,I⟩:=h.AJ.mem o;exact⟨I.head_ne h.at_.e,fun e=>h.ne p o (show F.e.wb=p.wb from e.symm)⟩
 ·intro k j e
  have:=h.new.2.2.1;have P:k=F.e.wb:=e;omega
theorem Bu.append{w:World}{n:Nat}{P Q:List AA}{C D:List Nat}(h:Bu w n P C)(k:Bu w n Q D)(t:∀p∈P,∀q∈Q,p.wb≠q.wb):Bu w n (P++Q) (C++D):=by
 refine⟨by simp[h.len,k.len],?_,?_,?_⟩
 ·intro p j
  rcases mA.1 j with j|j
  ·exact h.room p j
  ·exact k.room p j
 ·intro i p j
  by_cases l:i<P.length
  ·rw[gL l]at j
   rw[dG,gL (by rw[<-h.len];exact l),<-dG];exact h.at_ i p j
  ·rw[List.getElem?_append_right (by omega)]at j
   rw[dG,List.getElem?_append_right (by rw[<-h.len];omega),<-dG,<-h.len];exact k.at_ _ p j
 ·rw[By,List.nodup_append]
  refine⟨h.apart,k.apart,?_⟩;intro a ha b o;obtain⟨p,j,rfl⟩:=List.mem_map.1 ha;obtain⟨q,I,rfl⟩:=List.mem_map.1 o;exact t p j q I
structure JA(a b:Nat)(w:World)(n k:Nat)(o:Value)(P:List AA):Prop where
 row:∃A c,o=.slice A k c
 len:P.length=k
 pr:I0 w 0 o P
 AJ:Bu w n P (List.replicate k 0)
 E7:∀p∈P,(a<=p.h/\p.h<b)/\(a<=p.wb/\p.wb<b)
theorem Ln.at_{w wr:World}{n k:Nat}{o:Value}(h:Ln w n k o wr):∃P,JA w.heap.size wr.heap.size wr n k o P:=by obtain⟨A,c,P,rfl,t,C,j,l⟩:=h.row;exact⟨P,⟨_,_,rfl⟩,t,Ei C (AP _),j,fun p i=>⟨⟨(l p i).1,(j.lt i).1⟩,(l p i).2,(j.lt i).2⟩⟩
theorem JA.later{a b:Nat}{w w':World}{n k:Nat}{o:Value}{P:List AA}(h:JA a b w n k o P)(i:Below w.heap.size w w'):JA a b w' n k o P:=
 ⟨h.row,h.len,AS h.pr i,h.AJ.later i,h.E7⟩
theorem Br.make{j t:World}{g:Gz}{e:AA}{R U:Value}{q C J I P:Nat}{P1 P2:List AA}(a0:Ah t q 279 #[.int .i64 g.nt,.int .i64 g.top,e.v,R,U])(he:AK t e 0)(a1:e.n=g.top+1)(ht:g.top<=1000)
  (l:JA C J t (g.nt+1) (g.top+1) R P1) (o:JA I P t (g.nt+1) (g.top+1) U P2) (hb:Below j.heap.size j t) (a3:J<=I\/P<=C) (a4:e.wb<C\/J<=e.wb) (a5:e.wb<I\/P<=e.wb)
  (n1:j.heap.size<=q/\j.heap.size<=e.h/\j.heap.size<=e.wb/\j.heap.size<=C/\j.heap.size<=I):Br j t ⟨q,e,P1++P2,R,U⟩ g 0 (List.replicate (2*(g.top+1)) 0):=by
 have T:=l.len;have a2:=o.len;refine⟨⟨a0,he,a1,by simp[T,a2];omega,?_,?_,ht⟩,?_,?_,⟨n1.1,n1.2.1,n1.2.2.1,?_⟩,hb⟩
 ·simp only
  rw[List.take_left' T];exact l.pr
 ·simp only
  rw[List.drop_left' T];exact o.pr
 ·rw[show 2*(g.top+1)=(g.top+1)+(g.top+1) by omega,<-List.replicate_append_replicate]
  refine l.AJ.append o.AJ ?_;intro p i r hr;have x1:=(l.E7 p i).2;have x2:=(o.E7 r hr).2;omega
 ·intro p i
  rcases mA.1 i with i|i
  ·have:=(l.E7 p i).2
   simp only;omega
  ·have:=(o.E7 p i).2
   simp only;omega
 ·intro p i
  rcases mA.1 i with i|i
  ·have:=l.E7 p i
   omega
  ·have:=o.E7 p i
   omega
def XS(F:Fs)(b:Nat):Prop:=b=F.e.wb\/XP F.P b
theorem Br.no{I w:World}{F:Fs}{g:Gz}{E:Nat}{C:List Nat}(h:Br I w F g E C){b:Nat}{t:TypeId}{cs:Array Value}(i:Ah w b t cs)(j:t≠156):¬XS F b:=by
 rintro(rfl|⟨p,o,rfl⟩)
 ·exact Ah.A8 i h.at_.e.words j rfl
 ·obtain⟨S,l⟩:=h.AJ.mem o
  exact Ah.A8 i l.words j rfl
theorem Br.cell{R w w':World}{F:Fs}{g:Gz}{E:Nat}{C:List Nat}(h:Br R w F g E C)(I:Aj (XS F) w w'){b o:Nat}{v:Value}(t:b<w.heap.size)(i:w.cell? ⟨b,o,none⟩=some v)(j:∀z,v ≠ .int .u64 z):w'.cell? ⟨b,o,none⟩=some v:=by
 have P:¬XS F b:=by
  rintro(rfl|⟨p,J,rfl⟩)
  ·exact OE h.at_.e i j rfl
  ·obtain⟨S,l⟩:=h.AJ.mem J
   exact OE l i j rfl
 rw[World.cell?_of_block (w:=w) (I.block b t P)];exact i
theorem MG{w:World}{b o:Nat}{v:Value}(h:w.cell? ⟨b,o,none⟩=some v):b<w.heap.size:=World.block_lt_of_cell? w _ h
theorem Br.put{t w:World}{F:Fs}{g:Gz}{E:Nat}{C:List Nat}(h:Br t w F g E C){i x:Nat}{p:AA}(o:F.P[i]?=some p)(R:x<g.nt+1) :
  Calls Tryz.prog 86 #[.pointer (some ⟨p.h,0,none⟩),.int .i64 x] w fun e w'=>(∃b,e=.returned (.bool b))/\Br t w' F g E (C.set i (C.getD i 0|||2 ^ x))/\Aj (XS F) w w':=by
 have l:=mG o;refine(I9 (h.AJ.at_ i p o) (by rw[h.AJ.room p l];exact R)).mono ?_;rintro e w' ⟨J,P,j⟩;exact⟨⟨_,J⟩,h.EG (j.one l) (h.AJ.EG o P j),(j.one l).mono fun b I=>.inr I⟩
theorem Br.WY{j w:World}{F:Fs}{g:Gz}{E:Nat}{C:List Nat}(h:Br j w F g E C){x:Nat}(t:x<=g.top) :
  Calls Tryz.prog 86 #[.pointer (some ⟨F.e.h,0,none⟩),.int .i64 x] w fun e w'=>e=.returned (.bool (!E.testBit x))/\Br j w' F g (E|||2 ^ x) C/\Aj (XS F) w w':=by
 refine(I9 h.at_.e (i:=x) (by rw[h.at_.en];omega)).mono ?_;rintro e w' ⟨o,p,i⟩;exact⟨o,h.empty i p,i.mono fun b l=>.inl l⟩
theorem Br.line{J w:World}{F:Fs}{g:Gz}{E:Nat}{C:List Nat}(h:Br J w F g E C){i:Nat}{p:AA}(t:F.P[i]?=some p){I:Value}{l:List Nat}(U:Bz w I l)(hx:∀x∈l,x<=g.top) :
  Calls Tryz.prog 197 #[.pointer (some ⟨F.q,0,none⟩),.pointer (some ⟨p.h,0,none⟩),I] w fun e w'=>e=.returned (.tuple #[.bool (DF E i l C false).2.1,.bool (DF E i l C false).2.2])/\Br J w' F g E (DF E i l C false).1/\Aj (XS F) w w':=by
 have j:=mG t;refine(M7 h.at_ h.AJ (List.prefix_refl _) t (h.ne p j) U hx).mono ?_;rintro e w' ⟨R,T,o⟩;exact⟨R,h.EG (o.one j) T,(o.one j).mono fun b P=>.inr P⟩
theorem Br.Cf{j w:World}{F:Fs}{g:Gz}{E:Nat}{C:List Nat}(h:Br j w F g E C){rv:Value}{left:Nat}{l:List Nat}(I:Bz w rv l)(P:∀x∈l,x<=g.top)(J:left<=g.top) :
  Calls Tryz.prog 198 #[.pointer (some ⟨F.q,0,none⟩),.agg #[.int .i64 left,rv]] w fun e w'=>e=.returned (.bool (EL g E (g.top+1) left l C false).2)/\Br j w' F g E (EL g E (g.top+1) left l C false).1/\Aj (XS F) w w':=by
 refine(VS h.at_ h.AJ h.ne I P J).mono ?_;rintro e w' ⟨p,t,i⟩;exact⟨p,h.EG i t,i.mono fun b o=>.inr o⟩
def Gu(g:Gz)(j:Nat):List Nat:=(List.range (g.top+1)).map (fun x=>if x<j then 2 ^ x else 0)++List.replicate (g.top+1) 0
theorem ZQ(g:Gz):Gu g 0=List.replicate (2*(g.top+1)) 0:=by
 unfold Gu;have e:List.replicate (2*(g.top+1)) 0=List.replicate (g.top+1) 0++List.replicate (g.top+1) 0:=by rw[List.replicate_append_replicate];congr 1;omega
 rw[e];congr 1;refine List.eq_replicate_iff.2 ⟨by simp,?_⟩;intro b i;obtain⟨x,j,rfl⟩:=List.mem_map.1 i;rw[if_neg (Nat.not_lt_zero _)]
theorem Wv(g:Gz):Gu g (g.nt+1)=Jl g:=by
 unfold Gu Jl;congr 1;apply List.map_congr_left;intro x i;by_cases h:x<=g.nt
 ·rw[if_pos (by omega),if_pos h]
 ·rw[if_neg (by omega),if_neg h]
theorem WR{g:Gz}{j:Nat}(C:j<=g.top):(Gu g j).set j ((Gu g j).getD j 0|||2 ^ j)=Gu g (j+1):=by
 have e:(Gu g j).getD j 0=0:=by unfold Gu;rw[dG,gL (by simp;omega),pG,List.getElem?_range (by omega)];simp
 rw[e,Nat.zero_or];unfold Gu;rw[List.set_append_left _ _ (by simp;omega)];congr 1;apply List.ext_getElem
 ·simp
 ·intro i p t
  rw[List.getElem_set];simp only[List.getElem_map,List.getElem_range];split
  ·rename_i l
   rw[if_pos (by omega),l]
  ·rename_i l
   by_cases o:i<j
   ·rw[if_pos o,if_pos (by omega)]
   ·rw[if_neg o,if_neg (by omega)]
theorem gT{w0 w i:World}{F:Fs}{g:Gz}{E:Nat}{C:List Nat}(h:Br w0 w F g E C){t:AA}(j:Below w.heap.size w i)(ht:AK i t 0)(hn:t.n=g.nt+1)(a0:w.heap.size<=t.wb){J:Value}{l:List Nat}(hl:Bz i J l)(I:∀x∈l,x<=g.top)(a2:F.P.length=C.length) :
  Calls Tryz.prog 197 #[.pointer (some ⟨F.q,0,none⟩),.pointer (some ⟨t.h,0,none⟩),J] i fun e w'=>(∃m,e=.returned (.tuple #[.bool m,.bool (Dq E C l 0).2]))/\AK w' t (Dq E C l 0).1/\Aj t.X i w':=by
 have T:=(h.AJ.push j ht hn a0)
 have a4:=h.at_.Iq;have p:(F.P++[t])[C.length]?=some t:=by rw[<-a2];simp
 have a1:F.e.wb≠t.wb:=by have:=h.at_.e.words.lt;omega
 have o:=M7 (h.at_.later j) T ⟨[t],rfl⟩ p a1 hl I;obtain⟨m',hm⟩:=SY (E:=E) (C:=C) l 0 false (fun x a3=>by have:=I x a3;omega);rw[hm]at o;refine o.mono ?_;rintro e w' ⟨R,U,P⟩;refine⟨⟨m',R⟩,?_,P⟩;have:=U.at_ C.length t p;simpa using this
theorem UL{w0 w:World}{F:Fs}{g:Gz}{E:Nat}{C:List Nat}(h:Br w0 w F g E C){t:Value}{l:List Nat}(p:Bz w t l)(hx:∀x∈l,x<=g.top)(a4:g.nt<=120) :
  Calls Tryz.prog 151 #[.pointer (some ⟨F.q,0,none⟩),t] w fun e w'=>∃A c,e=.returned (.tuple #[.slice A (Bl (g.nt+1) (Dq E C l 0).1).length c,.bool (Dq E C l 0).2])/\Bz w' (.slice A (Bl (g.nt+1) (Dq E C l 0).1).length c) (Bl (g.nt+1) (Dq E C l 0).1)/\Below w.heap.size w w':=by
 have HS:=Hd h;have a0:Hid (Calls Tryz.prog 84 #[.int .i64 ((g.nt:Int)+1)] w fun e w'=>e=.returned (.pointer (some ⟨w.heap.size+1,0,none⟩))/\AK w' ⟨w.heap.size+1,w.heap.size,g.nt+1⟩ 0/\Below w.heap.size w w'):=Hd (JP (w:=w) (n:=g.nt+1) (by omega) (by omega));have U:Hid (∀o,Below w.heap.size w o->AK o ⟨w.heap.size+1,w.heap.size,g.nt+1⟩ 0->Calls Tryz.prog 197 #[.pointer (some ⟨F.q,0,none⟩),.pointer (some ⟨w.heap.size+1,0,none⟩),t] o fun e w'=>(∃m,e=.returned (.tuple #[.bool m,.bool (Dq E C l 0).2]))/\AK w' ⟨w.heap.size+1,w.heap.size,g.nt+1⟩ (Dq E C l 0).1/\Below w.heap.size w w'):=Hd (fun o i ht=>by refine(gT h i ht rfl (AG _) (p.later i) hx h.AJ.len).mono ?_;rintro e w' ⟨he,j,hc⟩;exact⟨he,j,i.trans (hc.below i.size (fun k hk e=>by have e2:k=w.heap.size:=e;omega))⟩)
 obtain⟨q0,-,-,-,-⟩:=h.at_.cells;have a3:=Kc (g.nt+1) (Dq E C l 0).1;obtain⟨⟨Al,cl,rfl,-⟩,-,-⟩:=id p;clear h p;go_enter Tryz.func151,Tryz.ntmps151
 go_wp2_with (first
  | (
   go_at_call 84;refine a0.out.mono ?_;rintro e o ⟨rfl,j,i⟩
   have a1:=Hd j;have R:=Hd i;clear j i)
  | (
   go_at_call 197;refine(U.out _ R.out a1.out).mono ?_;rintro e w2 ⟨⟨m,rfl⟩,j,i⟩
   have a2:=Hd j;have I:=Hd i;clear j i)
  | (
   go_at_call 159;refine(Tt a2.out).mono ?_;rintro e w3 ⟨a5,rfl,A,c,rfl,J,i⟩
   have HR:=Hd J;have T:=Hd (I.out.trans (i.mono I.out.size));clear J i))
 go_ret2
 have P:=HR.out;simp only[lM]at P;refine⟨A,c,by simp,G3 P (by omega),T.out⟩
def Text(w:World)(s:ByteArray)(e:Ending)(w':World):Prop:=e=.returned (.string s)/\Below w.heap.size w w'
theorem VK{g:Gm}{s:Int}(h:g.term s=true):1<=s/\∃k:Nat,s=(k:Int)+1/\k<g.T.length/\∃x,g.T[k]?=some x/\g.name s=x:=by unfold Gm.term at h;rw[Bool.and_eq_true,decide_eq_true_eq,decide_eq_true_eq]at h;refine⟨h.1,(s-1).toNat,by omega,by omega,g.T[(s-1).toNat]'(by omega),eG _,?_⟩;unfold Gm.name;rw[if_neg (by omega),if_neg (by omega),dG,gL (by omega),eG (by omega)];rfl
theorem Yi{g:Gm}{s:Int}(h:g.AV s=true):∃k:Nat,s=(g.T.length:Int)+k+1/\k<g.N.length/\∃x,g.N[k]?=some x/\g.name s=x:=by
 unfold Gm.AV at h;rw[Bool.and_eq_true,decide_eq_true_eq,decide_eq_true_eq]at h;refine⟨(s-1-g.T.length).toNat,by omega,by omega,g.N[(s-1-g.T.length).toNat]'(by omega),eG _,?_⟩;unfold Gm.name;have e:(s-1).toNat=g.T.length+(s-1-g.T.length).toNat:=by omega
 rw[if_neg (by omega),if_neg (by omega),dG,List.getElem?_append_right (by omega),e,Nat.add_sub_cancel_left,eG (by omega)];rfl
theorem Yf{g:Gm}{s:Int}(h0:s≠0)(i:g.term s=false)(j:g.AV s=false):g.name s=⟨#[]⟩:=by unfold Gm.term at i;unfold Gm.AV at j;rw[Bool.and_eq_false_iff,decide_eq_false_iff_not,decide_eq_false_iff_not]at i j;unfold Gm.name;rw[if_neg h0,if_pos (by omega)]
theorem Uu(g:Gm):g.name 0=⟨#[36]⟩:=by unfold Gm.name;rw[if_pos rfl]
theorem TP{w:World}{v:Value}{g:Gm}(h:Ci w v g)(s:Int)(hs : -9223372036854775808<=s):Calls Tryz.prog 31 #[v,.int .i64 s] w (Text w (g.name s)):=by
 have ab:=h.small.2.2.1;have aa:=h.small.2.2.2.1;have t:=Hd (fun y (hy:Below w.heap.size w y)=>Sb (h.later hy) s);have p:=Hd (fun y (hy:Below w.heap.size w y)=>K0 (h.later hy) s);have HG:=Hd (Cc.new w 32 v);obtain⟨AT,cT,AN,cN,AR,cR,rfl,hT,hN,hR⟩:=h.open_;obtain⟨⟨A1,c1,e1,a4⟩,_⟩:=hT;cases e1
 obtain⟨⟨A2,c2,e2,a5⟩,_⟩:=hN;cases e2
 have a6:=Hd a4;have a7:=Hd a5;have J:=Hd (@VK g s);have P:=Hd (@Yi g s);have R:=Hd (@Yf g s);clear h hR a4 a5;by_cases h0:s=0
 ·subst h0
  rw[Uu];clear J P R t p;generalize g.T.length=nT at *;generalize g.N.length=nN at *;go_enter Tryz.func31,Tryz.ntmps31
  go_wp2;go_ret;exact⟨rfl,Ay _ _⟩
 have ad:(s==0)=false:=by simpa using h0
 cases o:g.term s with
 | true=>
  rw[o]at t;obtain⟨hp,k,hk,a8,x,hx,a0⟩:=J.out o;rw[a0];obtain⟨b,off,hA,a3,l⟩:=a6.out k x hx;subst hA;simp only[Bs]at l;clear J P R p o hx a0;generalize g.T.length=nT at *;generalize g.N.length=nN at *;generalize g.R.length=nR at *;have a9:s-1=(k:Int):=by omega
  clear hk hp;go_enter Tryz.func31,Tryz.ntmps31
  go_wp2_with fail
  refine(t.out _ (Ay w _)).mono ?_;rintro e w1 ⟨rfl,i⟩;have j:=Hd (Dm i);obtain⟨T,U,d2,d3⟩:=(HG.out.later i).four;have e1:=(j.out.cell (p:=⟨b,off+k,none⟩) a3).trans l;clear i l;go_wp2;go_ret;exact⟨rfl,j.out⟩
 | false=>
  rw[o]at t;cases I:g.AV s with
  | true=>
   rw[I]at p;obtain⟨k,hk,a8,x,hx,a0⟩:=P.out I;rw[a0];obtain⟨b,off,hA,a3,l⟩:=a7.out k x hx;subst hA;simp only[Bs]at l;clear J P R o I hx a0;generalize g.T.length=nT at *;generalize g.N.length=nN at *;generalize g.R.length=nR at *;have a9:s-1-(nT:Int)=(k:Int):=by omega
   clear hk;go_enter Tryz.func31,Tryz.ntmps31
   go_wp2_with fail
   refine(t.out _ (Ay w _)).mono ?_;rintro e w1 ⟨rfl,i⟩;have j:=Hd (Dm i);have a2:=Hd (HG.out.later i);obtain⟨T,U,d2,d3⟩:=a2.out.four;clear i;go_wp2_with fail
   refine(p.out _ j.out).mono ?_;rintro e w2 ⟨rfl,C⟩;have a1:=Hd (j.out.trans (C.mono j.out.size));clear T U d2 d3;obtain⟨T,U,d2,d3⟩:=(a2.out.later C).four;have e1:=(a1.out.cell (p:=⟨b,off+k,none⟩) a3).trans l;clear C l;go_wp2;go_ret;exact⟨rfl,a1.out⟩
  | false=>
   rw[I]at p;rw[R.out h0 o I];clear J P R o I;generalize g.T.length=nT at *;generalize g.N.length=nN at *;generalize g.R.length=nR at *;go_enter Tryz.func31,Tryz.ntmps31
   go_wp2_with fail
   refine(t.out _ (Ay w _)).mono ?_;rintro e w1 ⟨rfl,i⟩;have j:=Hd (Dm i);have a2:=Hd (HG.out.later i);obtain⟨T,U,d2,d3⟩:=a2.out.four;clear i;go_wp2_with fail
   refine(p.out _ j.out).mono ?_;rintro e w2 ⟨rfl,C⟩;have a1:=Hd (j.out.trans (C.mono j.out.size));clear T U d2 d3 C;go_wp2;go_ret;exact⟨rfl,a1.out⟩
section
variable {w:World} {v:Value} {g:Gm}
theorem Pp(h:Ci w v g):Calls Tryz.prog 44 #[v] w fun e w'=>e=.returned (.int .i64 ((g.T.length:Int)+(g.N.length:Int)))/\Below w.heap.size w w':=by
 obtain⟨t,J,o,C,p,I,rfl,l,i,j⟩:=h.open_;have P:=h.small.2.2.1;have R:=h.small.2.2.2.1;clear h l i j;go_enter Tryz.func44,Tryz.ntmps44
 go_wp2;go_ret;exact⟨rfl,Ay _ _⟩
theorem ZC(h:Ci w v g)(s:Int):Calls Tryz.prog 141 #[v,.int .i64 s] w (Bb w (g.term s)):=by
 obtain⟨t,J,o,C,p,I,rfl,l,i,j⟩:=h.open_;clear h l i j;unfold Gm.term;generalize g.T.length=n;generalize g.N.length=m;go_enter Tryz.func141,Tryz.ntmps141
 go_wp2;all_goals go_ret
 all_goals exact⟨BB (by rw[Bool.eq_iff_iff];simp[*]<;>omega),Ay _ _⟩
theorem QT(h:Ci w v g)(s:Int):Calls Tryz.prog 46 #[v,.int .i64 s] w (Bb w (g.AV s)):=by
 have o:=Hd (fun y (I:Below w.heap.size w y)=>Pp (h.later I));obtain⟨R,cT,J,T,P,U,rfl,C,p,t⟩:=h.open_;clear h C p t;unfold Gm.AV;generalize g.T.length=n at *;generalize g.N.length=m at *;generalize g.R.length=r at *;generalize g.s=gs at *;by_cases j:(n:Int)<s
 ·rw[decide_eq_true j,Bool.true_and]
  go_enter Tryz.func46,Tryz.ntmps46
  go_wp2_with (go_at_call 44;refine(o.out _ (Ay _ _)).mono ?_;rintro e w' ⟨rfl,i⟩;have l:=Hd (Dm i);clear i)
  go_ret;exact⟨rfl,l.out⟩
 ·rw[decide_eq_false j,Bool.false_and]
  go_enter Tryz.func46,Tryz.ntmps46
  go_wp2;go_ret;exact⟨rfl,Ay _ _⟩
end
theorem ZU{w:World}{u v:Value}{a b:List Int}(ha:Bj BF w u a)(j:Bj BF w v b):Calls Tryz.prog 57 #[u,v] w (Bb w (a==b)):=by
 obtain⟨⟨A,c,rfl,U⟩,ae⟩:=ha;obtain⟨⟨B,d,rfl,a0⟩,a7⟩:=j;have a3:=Hd U;have a4:=Hd a0;clear U a0;by_cases t:a.length=b.length
 ·rw[<-t]
  have J:=Hd t;clear t a7;go_enter Tryz.func57,Tryz.ntmps57
  go_wp2;go_loopw [5] (fun i wr=>∃k:Nat,k<=a.length/\i=.int .i64 k/\Hid (JG a b k)/\Hid (∃q,wr=w.drewN q)) (fun i _=>a.length-(intOf i).toNat)
  case atStart=>exact⟨0,AP _,rfl,Hd (fun af x y hj=>absurd hj (Nat.not_lt_zero _)),Hd ⟨0,rfl⟩⟩
  case round=>
   obtain⟨k,hk,rfl,P,o⟩:=hrel;by_cases a6:k<a.length
   ·have C:=eG a6
    have I:=eG (show k<b.length by have:=J.out;omega);generalize a[k]=x at C;generalize b[k]'(by have:=J.out;omega)=y at I;obtain⟨b1,a8,rfl,ab,a1⟩:=a3.out k x C;obtain⟨b2,a9,rfl,ad,a2⟩:=a4.out k y I;have R:=Hd C;have T:=Hd I;have e1:wr.cell? ⟨b1,a8+k,none⟩=some (.int .i64 x):=by obtain⟨q,rfl⟩:=o.out;exact a1
    have e2:wr.cell? ⟨b2,a9+k,none⟩=some (.int .i64 y):=by obtain⟨q,rfl⟩:=o.out;exact a2
    clear C I a1 a2;by_cases l:x=y
    ·have p:=Hd (P.out.next R.out T.out l)
     have j:(x != y)=false:=by simp[l]
     clear l;go_wp2;go_quiet (fail)
     have a5:Hid (∃q,wr.drewN nq=w.drewN q):=Hd (by obtain⟨q,hq⟩:=o.out;exact⟨q+nq,by rw[hq,World.drewN_drewN]⟩)
     go_wp2;go_roundw
     case rel=>exact⟨k+1,by omega,by go_num,p,a5⟩
     case measure=>simp[intOf];omega
    ·have p:=Hd (Si R.out T.out l)
     have j:(x != y)=true:=by simp[l]
     clear l;go_wp2;go_quiet (fail)
     go_wp2;go_ret;refine⟨BB p.out.symm,?_⟩;obtain⟨q,rfl⟩:=o.out;exact Ia (Ia (Below.refl _ w) _) _
   ·obtain rfl:k=a.length:=by omega
    have p:=Hd (P.out.all J.out);go_wp2;go_ret;refine⟨BB p.out.symm,?_⟩;obtain⟨q,rfl⟩:=o.out;exact Ia (Below.refl _ w) _
 ·have j:(a==b)=false:=by
   rw[bN];rintro rfl;exact t rfl
  rw[j];have aa:¬(a.length:Int)=(b.length:Int):=by omega
  clear t j;go_enter Tryz.func57,Tryz.ntmps57
  go_wp2;go_ret;exact⟨rfl,Below.refl _ w⟩
theorem SI{w:World}{a b:Ru}(ha:Bj BF w a.v a.right)(o:Bj BF w b.v b.right):Calls Tryz.prog 49 #[CY a,CY b] w (Bb w (CI a b)):=by
 have I:=Hd (fun z (t:Below w.heap.size w z)=>ZU (ha.later t) (o.later t));clear ha o;unfold CI CY;generalize (a.right==b.right)=q at *;generalize a.v=J at *;generalize b.v=P at *;generalize a.left=i at *;generalize b.left=j at *;by_cases h:i=j
 ·have l:(i==j)=true:=by simp[h]
  rw[l,Bool.true_and];clear h;go_enter Tryz.func49,Tryz.ntmps49
  go_wp2_with fail
  refine(I.out _ ((Ay w _).trans ((Ay _ _).mono (by simp)))).mono ?_;rintro e R ⟨rfl,p⟩;have C:=Hd ((Ay w _).trans (((Ay _ _).trans (p.mono (by simp))).mono (by simp)));clear p;go_wp2;go_ret;exact⟨rfl,C.out⟩
 ·have l:(i==j)=false:=by simp[h]
  rw[l,Bool.false_and];clear h;go_enter Tryz.func49,Tryz.ntmps49
  go_wp2;go_ret;exact⟨rfl,((Ay w _).trans ((Ay _ _).mono (by simp)))⟩
theorem RM(w:World):Below w.heap.size w w.drew:=⟨rfl,rfl,rfl,AG _,fun _ _=>rfl⟩
theorem PH{w:World}{u v:Value}{a:List ByteArray}(ha:Bj Bs w u a)(o:Bj Bs w v a):Calls Tryz.prog 48 #[u,v] w (Bb w true):=by
 obtain⟨⟨A,c,rfl,p⟩,a1⟩:=ha;obtain⟨⟨B,d,rfl,t⟩,a7⟩:=o;have J:=Hd p;have P:=Hd t;have a6:=a1;clear p t;go_enter Tryz.func48,Tryz.ntmps48
 go_wp2;go_loopw [5] (fun i wr=>∃k:Nat,k<=a.length/\i=.int .i64 k/\Hid (∃q,wr=w.drewN q)) (fun i _=>a.length-(intOf i).toNat)
 case atStart=>exact⟨0,AP _,rfl,Hd ⟨0,rfl⟩⟩
 case round=>
  obtain⟨k,hk,rfl,j⟩:=hrel;by_cases a0:k<a.length
  ·have l:=eG a0
   generalize a[k]=x at l;obtain⟨T,a2,rfl,a4,C⟩:=J.out k x l;obtain⟨U,a3,rfl,a5,I⟩:=P.out k x l;have e1:wr.cell? ⟨T,a2+k,none⟩=some (.string x):=by obtain⟨q,rfl⟩:=j.out;exact C
   have e2:wr.cell? ⟨U,a3+k,none⟩=some (.string x):=by obtain⟨q,rfl⟩:=j.out;exact I
   have o:(x.toList != x.toList)=false:=by simp
   clear l C I;go_wp2;go_quiet (fail)
   have R:Hid (∃q,wr.drewN nq=w.drewN q):=Hd (by obtain⟨q,hq⟩:=j.out;exact⟨q+nq,by rw[hq,World.drewN_drewN]⟩)
   go_wp2;go_roundw
   case rel=>exact⟨k+1,by omega,by go_num,R⟩
   case measure=>simp[intOf];omega
  ·obtain rfl:k=a.length:=by omega
   go_wp2;go_ret;refine⟨rfl,?_⟩;obtain⟨q,rfl⟩:=j.out;exact Ia (Below.refl _ w) _
theorem gF{w:World}{u v:Value}{g h:Gm}(hg:Ci w u g)(hh:Ci w v h)(eT:h.T=g.T)(eN:h.N=g.N)(es:h.s=g.s)(eR:h.R.length=g.R.length)(er:∀(k:Nat) (a b:Ru),g.R[k]?=some a->h.R[k]?=some b->CI a b=true):Calls Tryz.prog 14 #[u,v] w (Bb w true):=by
 have HG:=Hd (Cc.new w 32 u);have ad:=Hd (Cc.new (w.alloc (.cells u.cells 32)) 32 v);obtain⟨AT,cT,AN,cN,R,cR,rfl,hT,hN,hR⟩:=hg.open_;obtain⟨U,dT,T,dN,t,dR,rfl,kT,kN,kR⟩:=hh.open_;rw[eT]at kT;rw[eN]at kN;rw[eR]at kR;have HT:=Hd (fun y (i:Below w.heap.size w y)=>PH (hT.later i) (kT.later i));have HN:=Hd (fun y (i:Below w.heap.size w y)=>PH (hN.later i) (kN.later i));have HL:Hid (∀k,k<g.R.length->∃(a b:Ru) (C J I P:Nat),R=some ⟨C,J,none⟩/\t=some ⟨I,P,none⟩/\∀y,Below w.heap.size w y ->
   (y.cell? ⟨C,J+k*2,none⟩=some (.int .i64 a.left)/\y.cell? ⟨C,J+k*2+1,none⟩=some a.v)/\(y.cell? ⟨I,P+k*2,none⟩=some (.int .i64 b.left)/\y.cell? ⟨I,P+k*2+1,none⟩=some b.v)/\(∃A c,a.v=.slice A a.right.length c)/\(∃A c,b.v=.slice A b.right.length c)/\Calls Tryz.prog 49 #[CY a,CY b] y (Bb y true)):=Hd (fun k hk=>by
  obtain⟨⟨A1,c1,e1,ai⟩,_⟩:=hR;obtain⟨⟨A2,c2,e2,aj⟩,_⟩:=kR;cases e1
  obtain rfl:t=A2:=by injection e2
  have ha:=eG hk;have hb:=eG (show k<h.R.length by omega);generalize g.R[k]=a at ha;generalize h.R[k]'(by omega)=b at hb;obtain⟨C,J,rfl,l1,x1,x2,x3⟩:=ai k a ha;obtain⟨I,P,rfl,l2,y1,y2,y3⟩:=aj k b hb;refine⟨a,b,C,J,I,P,rfl,rfl,fun y i=>⟨⟨(i.cell (p:=⟨C,J+k*2,none⟩) l1).trans x1,(i.cell (p:=⟨C,J+k*2+1,none⟩) l1).trans x2⟩,⟨(i.cell (p:=⟨I,P+k*2,none⟩) l2).trans y1,(i.cell (p:=⟨I,P+k*2+1,none⟩) l2).trans y2⟩,?_,?_,?_⟩⟩
  ·obtain⟨⟨A,c,e,_⟩,_⟩:=x3;exact⟨A,c,e⟩
  ·obtain⟨⟨A,c,e,_⟩,_⟩:=y3;exact⟨A,c,e⟩
  ·have:=SI (x3.later i) (y3.later i)
   rw[er k a b ha hb]at this;exact this)
 have ao:g.R.length<=1048576:=hg.small.2.2.2.2.1;rw[eT,eN,eR,es]at ad ⊢;clear hg hh hT hN hR kT kN kR er eT eN eR es;generalize g.T.length=p at *;generalize g.N.length=o at *;generalize g.R.length=j at *;generalize g.s=l at *;have a3:Hid (Below w.heap.size w ((w.alloc (.cells #[.slice AT p cT,.slice AN o cN,.slice R j cR,.int .i64 l] 32)).alloc (.cells #[.slice U p dT,.slice T o dN,.slice t j dR,.int .i64 l] 32))):=Hd ((Ay w _).alloc (by simp) _);have ah:=Hd (HG.out.later (Ay _ (.cells #[.slice U p dT,.slice T o dN,.slice t j dR,.int .i64 l] 32)))
 have HH:=Hd (show Cc ((w.alloc (.cells #[.slice AT p cT,.slice AN o cN,.slice R j cR,.int .i64 l] 32)).alloc (.cells #[.slice U p dT,.slice T o dN,.slice t j dR,.int .i64 l] 32)) (w.heap.size+1) _ by have:=ad.out;rw[World.size_alloc]at this;exact this);have a7:Hid (∀y,Below ((w.alloc (.cells #[.slice AT p cT,.slice AN o cN,.slice R j cR,.int .i64 l] 32)).alloc (.cells #[.slice U p dT,.slice T o dN,.slice t j dR,.int .i64 l] 32)).heap.size ((w.alloc (.cells #[.slice AT p cT,.slice AN o cN,.slice R j cR,.int .i64 l] 32)).alloc (.cells #[.slice U p dT,.slice T o dN,.slice t j dR,.int .i64 l] 32)) y->(y.cell? ⟨w.heap.size,0,none⟩=some (.slice AT p cT)/\y.cell? ⟨w.heap.size,1,none⟩=some (.slice AN o cN)/\y.cell? ⟨w.heap.size,2,none⟩=some (.slice R j cR)/\y.cell? ⟨w.heap.size,3,none⟩=some (.int .i64 l))/\(y.cell? ⟨w.heap.size+1,0,none⟩=some (.slice U p dT)/\y.cell? ⟨w.heap.size+1,1,none⟩=some (.slice T o dN)/\y.cell? ⟨w.heap.size+1,2,none⟩=some (.slice t j dR)/\y.cell? ⟨w.heap.size+1,3,none⟩=some (.int .i64 l))):=Hd (fun y i=>⟨(ah.out.later i).four,(HH.out.later i).four⟩)
 have aq:∀(x:Bool) (w:World),(Op.unary .not (.bool x)).run Tryz.prog w=.ok (.bool (!x)) w:=fun _ _=>rfl
 go_enter Tryz.func14,Tryz.ntmps14
 go_wp2_with fail
 refine(HT.out _ a3.out).mono ?_;rintro e w1 ⟨rfl,a2⟩;have ae:=Hd a2;have a4:=Hd (a3.out.trans (a2.mono a3.out.size));obtain⟨⟨g0,g1,g2,g3⟩,h0,h1,h2,h3⟩:=a7.out w1 a2;clear a2;go_wp2_with fail
 refine(HN.out _ a4.out).mono ?_;rintro e w2 ⟨rfl,a9⟩;have a8:=Hd (ae.out.trans (a9.mono ae.out.size));have a1:=Hd (a4.out.trans (a9.mono a4.out.size));clear g0 g1 g2 g3 h0 h1 h2 h3 a9;obtain⟨⟨g0,g1,g2,g3⟩,h0,h1,h2,h3⟩:=a7.out w2 a8.out;go_wp2;go_loopw [5] (fun ab wr=>∃k:Nat,k<=j/\ab=.int .i64 k/\Hid (Below w2.heap.size w2 wr)) (fun ab _=>j-(intOf ab).toNat)
 case atStart=>exact⟨0,AP _,rfl,Hd (Below.refl _ _)⟩
 case round=>
  obtain⟨k,hk,rfl,a0⟩:=hrel;clear g0 g1 g2 g3 h0 h1 h2 h3;obtain⟨⟨g0,g1,g2,g3⟩,h0,h1,h2,h3⟩:=a7.out wr (a8.out.trans (a0.out.mono a8.out.size));have a5:=Hd (a1.out.trans (a0.out.mono a1.out.size));by_cases ak:k<j
  ·obtain⟨a,b,C,J,I,P,eA,eB,aa⟩:=HL.out k ak
   obtain⟨⟨p1,p2⟩,⟨q1,q2⟩,⟨A1,c1,ea⟩,⟨A2,c2,eb⟩,_⟩:=aa wr a5.out;have a6:=Hd (aa wr.drew (a5.out.trans ((RM wr).mono a5.out.size))).2.2.2.2;subst eA;subst eB;unfold CY at a6;rw[ea,eb]at a6;rw[ea]at p2;rw[eb]at q2;clear aa ea eb;generalize a.left=al at *;generalize b.left=bl at *;generalize a.right.length=an at *;generalize b.right.length=bn at *;go_wp2;go_region_law (
     go_simp;go_at_call 49;refine a6.out.mono ?_;rintro e w3 ⟨rfl,af⟩;have ag:=Hd (a0.out.trans (((RM wr).trans af).mono a0.out.size));clear af)
   all_goals go_wp2
   all_goals go_roundw
   all_goals first
    | (case rel=>exact⟨k+1,by omega,by go_num,ag⟩)
    | (case measure=>simp[intOf];omega)
  ·obtain rfl:k=j:=by omega
   go_wp2;go_ret;exact⟨rfl,a1.out.trans (a0.out.mono a1.out.size)⟩
theorem LC{o:Type}{p:o->Bool}{l:List o}{k:Nat}{x:o}(h:∀j y,j<k->l[j]?=some y->p y=true)(C:l[k]?=some x)(t:p x=true):∀j y,j<k+1->l[j]?=some y->p y=true:=by
 intro j y I i;by_cases e:j=k
 ·subst e
  rw[C]at i;cases i
  exact t
 ·exact h j y (by omega) i
theorem Lc{o:Type}{p:o->Bool}{l:List o}(h:∀j y,j<l.length->l[j]?=some y->p y=true):l.all p=true:=by rw[List.all_eq_true];intro x C;obtain⟨k,i,t⟩:=List.mem_iff_getElem.1 C;exact h k x i (by rw[<-t];exact eG i)
theorem Lp{i:Type}{p:i->Bool}{l:List i}{k:Nat}{x:i}(o:l[k]?=some x)(j:p x=false):l.all p=false:=by rw[List.all_eq_false];exact⟨x,mG o,by rw[j];simp⟩
theorem Ux{w:World}{v:Value}{g:Gm}(h:Ci w v g):Calls Tryz.prog 88 #[v] w (Bb w (!g.DH)):=by
 have a1:=h.small.2.2.2.2.1;have HG:=Hd (Cc.new w 32 v);obtain⟨R,cT,P,cN,AR,cR,rfl,hT,hN,hR⟩:=h.open_;obtain⟨⟨A,c,e,hc⟩,_⟩:=hR;cases e
 have T:=Hd hc;have C:Hid (g.DH=((decide (g.T.length<=120)&&decide (g.N.length<=120))&&(decide (g.R.length<=300)&&g.R.all Gf))):=Hd rfl;clear h hT hN hc;generalize g.DH=DH at *;generalize g.R=l at *;generalize g.T.length=nT at *;generalize g.N.length=nN at *;generalize g.s=gs at *;obtain⟨d0,d1,d2,d3⟩:=HG.out.four;have a2:w.heap.size<(w.alloc (.cells #[.slice R nT cT,.slice P nN cN,.slice AR l.length cR,.int .i64 gs] 32)).heap.size:=by simp
 go_enter Tryz.func88,Tryz.ntmps88
 go_wp2
 go_loop [3] (fun i=>∃k:Nat,k<=l.length/\i=.int .i64 k/\Hid (∀j y,j<k->l[j]?=some y->Gf y=true)) (fun i=>l.length-(intOf i).toNat)
 case atStart=>exact⟨0,AP _,rfl,Hd (fun j y hj=>absurd hj (Nat.not_lt_zero _))⟩
 case round=>
  obtain⟨k,hk,rfl,t⟩:=hrel;by_cases a0:k<l.length
  ·have p:=eG a0
   generalize l[k]=r at p;obtain⟨b,off,hA,hb,h1,I,⟨A2,c2,hv,_⟩,_⟩:=T.out k r p;subst hA;rw[hv]at I;have e2:=((Ay w (.cells #[.slice R nT cT,.slice P nN cN,.slice (some ⟨b,off,none⟩) l.length cR,.int .i64 gs] 32)).cell (p:=⟨b,off+k*2+1,none⟩) hb).trans I;have U:=Hd p;clear h1 I hv p;by_cases J:r.right.length<=8
   ·have o:=Hd (LC t.out U.out (show Gf r=true from decide_eq_true J))
    generalize r.right.length=rn at *;go_wp2
    go_round
    case rel=>exact⟨k+1,by omega,by go_num,o⟩
    case measure=>simp[intOf];omega
   ·have o:=Hd (Lp U.out (show Gf r=false from decide_eq_false J))
    generalize r.right.length=rn at *;have a3:¬(rn:Int)<=8:=by omega
    clear J;go_wp2;go_ret;exact⟨BB (by rw[C.out,o.out];simp),Ay _ _⟩
  ·obtain rfl:k=l.length:=by omega
   have o:=Hd (Lc t.out);rw[o.out]at C;clear o t T;generalize l.length=nR at *;go_wp2;all_goals go_ret
   all_goals exact⟨BB (by rw[C.out,Bool.eq_iff_iff];simp[*]<;>omega),Ay _ _⟩
theorem bI{a b:ByteArray}(h:a=b):(a.toList==b.toList)=true:=by rw[h];simp
theorem Vx{a b:ByteArray}(h:¬a=b):(a.toList==b.toList)=false:=by rw[bN,LF,LF];exact fun e=>h (ByteArray.ext (Array.ext' e))
open Classical in
noncomputable def FM (l:List ByteArray) (s:ByteArray):Int:=Gp (fun x=>decide (x=s)) l
open Classical in
theorem Xx{w:World}{v:Value}{l:List ByteArray}(h:Bj Bs w v l)(s:ByteArray):Calls Tryz.prog 140 #[v,.string s] w fun e w'=>e=.returned (.int .i64 (FM l s))/\w'=w:=by
 obtain⟨⟨A,c,rfl,J⟩,hs,_⟩:=h;have P:=Hd J;clear J;unfold FM;go_enter Tryz.func140,Tryz.ntmps140
 go_wp2
 go_loop [5] (fun i=>∃k:Nat,k<=l.length/\i=.int .i64 k/\Hid (∀j y,j<k->l[j]?=some y->decide (y=s)=false)) (fun i=>l.length-(intOf i).toNat)
 case atStart=>exact⟨0,AP _,rfl,Hd (fun j y hj=>absurd hj (Nat.not_lt_zero _))⟩
 case round=>
  obtain⟨k,hk,rfl,t⟩:=hrel;by_cases a0:k<l.length
  ·have p:=eG a0
   generalize l[k]=x at p;obtain⟨b,off,T,hb,U⟩:=P.out k x p;subst T;simp only[Bs]at U;have I:=Hd p;clear p;by_cases o:x=s
   ·have C:=Hd (LP I.out (decide_eq_true o) t.out)
    have a1:=bI o;clear o;go_wp2;go_ret;exact⟨by rw[C.out];rfl,rfl⟩
   ·have R:=Hd (MR I.out (decide_eq_false o) t.out)
    have a1:=Vx o;clear o;go_wp2
    go_round
    case rel=>exact⟨k+1,by omega,by go_num,R⟩
    case measure=>simp[intOf];omega
  ·obtain rfl:k=l.length:=by omega
   have C:=Hd (Mh t.out);go_wp2;go_ret;exact⟨by rw[C.out];rfl,rfl⟩
theorem Zt(l:List ByteArray)(s:ByteArray):0<=FM l s<->s∈l:=by
 unfold FM;constructor
 ·intro p
  have j:=decide_eq_true p;rw[Ls]at j;obtain⟨x,i,o⟩:=List.any_eq_true.1 j;exact of_decide_eq_true o▸i
 ·intro i
  refine of_decide_eq_true ?_;rw[Ls];exact List.any_eq_true.2 ⟨s,i,decide_eq_true rfl⟩
theorem TI{l:List ByteArray}{k:Nat}{s:ByteArray}(I:l[k]?=some s):(l.take (k+1)).Nodup<->(l.take k).Nodup/\¬s∈l.take k:=by
 obtain⟨t,rfl⟩:=sG.1 I;rw[List.take_succ_eq_append_getElem t,List.nodup_append];constructor
 ·rintro⟨i,_,o⟩
  exact⟨i,fun C=>o _ C _ (by simp) rfl⟩
 ·rintro⟨i,j⟩
  exact⟨i,by simp,fun a ha b p e=>j (by rw[mS.1 p]at e;exact e▸ha)⟩
theorem ZL{l:List ByteArray}{k:Nat}{s:ByteArray}(o:l[k]?=some s)(j:s∈l.take k):¬l.Nodup:=by intro h;have i:(l.take (k+1)).Nodup:=(List.take_sublist _ _).nodup h;exact((TI o).1 i).2 j
def dH(w:World)(b:Bool)(e:Ending)(w':World):Prop:=e=.returned (.bool b)/\∃d,w'=w.drewN d
theorem dZ{w:World}{v:Value}{l:List ByteArray}(h:Bj Bs w v l):Calls Tryz.prog 90 #[v] w (dH w (decide l.Nodup)):=by
 have hl:=h;obtain⟨⟨A,c,rfl,U⟩,hs,a0⟩:=hl;have a3:=(a0 _ _ _ rfl).1;have HC:=Hd U;have HP:Hid (∀k s b off,l[k]?=some s->A=some ⟨b,off,none⟩->∀y,(∃d,y=w.drewN d)->Calls Tryz.prog 140 #[.slice A k c,.string s] y fun e w'=>e=.returned (.int .i64 (FM (l.take k) s))/\∃d,w'=y.drewN d):=Hd (by rintro k s b off j C y ⟨d,rfl⟩;have hk:=(sG.1 j).1;have h2:Bj Bs (w.drewN d) (.slice A l.length c) l:=h.later (Ia (Below.refl _ w) d);exact(Xx (h2.take k (by omega) c ⟨by omega,fun e=>by rw[C]at e;cases e⟩) s).mono fun e w' t=>⟨t.1,0,t.2⟩)
 clear U h a0;go_enter Tryz.func90,Tryz.ntmps90
 go_wp2;go_loopw [3] (fun i wr=>∃k:Nat,k<=l.length/\i=.int .i64 k/\Hid ((l.take k).Nodup)/\Hid (∃d,wr=w.drewN d)) (fun i _=>l.length-(intOf i).toNat)
 case atStart=>exact⟨0,AP _,rfl,Hd (by simp),Hd ⟨0,rfl⟩⟩
 case round=>
  obtain⟨k,hk,rfl,J,o⟩:=hrel;by_cases a2:k<l.length
  ·have j:=eG a2
   generalize l[k]=s at j;obtain⟨b,off,C,hb,I⟩:=HC.out k s j;have R:=Hd (fun n=>HP.out k s b off j C (wr.drewN n) (by obtain⟨d,rfl⟩:=o.out;exact⟨d+n,World.drewN_drewN _ _ _⟩));subst C;simp only[Bs]at I;have e1:wr.cell? ⟨b,off+k,none⟩=some (.string s):=by obtain⟨d,rfl⟩:=o.out;exact I
   have T:=Hd j;have P:=Hd (Zt (l.take k) s);clear j I;generalize FM (l.take k) s=n at *;have a4:(k:Int)<=(c:Int):=by omega
   by_cases hn:0<=n
   ·have p:=Hd (ZL T.out (P.out.1 hn))
    go_wp2;go_quiet ((go_at_call 140;exact Calls.quiet_of (R.out _)))
    go_wp2;go_ret;refine⟨BB (decide_eq_false p.out).symm,?_⟩;obtain⟨d,rfl⟩:=o.out;exact⟨_,World.drewN_drewN _ _ _⟩
   ·have p:=Hd ((TI T.out).2 ⟨J.out,fun hm=>hn (P.out.2 hm)⟩)
    go_wp2;go_quiet ((go_at_call 140;exact Calls.quiet_of (R.out _)))
    have a1:Hid (∃q,wr.drewN nq=w.drewN q):=Hd (by obtain⟨q,hq⟩:=o.out;exact⟨q+nq,by rw[hq,World.drewN_drewN]⟩)
    go_wp2;go_roundw
    case rel=>exact⟨k+1,by omega,by go_num,p,a1⟩
    case measure=>simp[intOf];omega
  ·obtain rfl:k=l.length:=by omega
   have p:Hid l.Nodup:=Hd (by have t:=J.out;rw[List.take_length]at t;exact t);go_wp2;go_ret;exact⟨BB (decide_eq_true p.out).symm,o.out⟩
theorem ZT{w:World}{v:Value}{g:Gm}(h:Ci w v g):Calls Tryz.prog 89 #[v] w (Bb w g.form):=by
 have ag:=h.small.2.2.1;have af:=h.small.2.2.2.1;have ab:=Hd h.small.1;have ad:=Hd h.small.2.1;have HG:=Hd (Cc.new w 32 v);obtain⟨AT,cT,AN,cN,AR,cR,rfl,hT,hN,hR⟩:=h.open_;obtain⟨⟨A1,c1,e1,a5⟩,_,_⟩:=hT;cases e1
 obtain⟨⟨A2,c2,e2,a6⟩,_,_⟩:=hN;cases e2
 have a7:=Hd a5;have a8:=Hd a6;have HF:Hid (g.form=(g.T.all GK&&g.N.all GA)):=Hd rfl;have HP:=Hd (fun s hs y=>Ue s hs y);have HQ:=Hd (fun s hs y=>ZS s hs y);clear h hR a5 a6;generalize g.form=ah at *;generalize g.T=C at *;generalize g.N=t at *;generalize g.R.length=nR at *;generalize g.s=gs at *;go_enter Tryz.func89,Tryz.ntmps89
 go_wp2;go_loopw [3] (fun i wr=>∃k:Nat,k<=C.length/\i=.int .i64 k/\Hid (∀j y,j<k->C[j]?=some y->GK y=true)/\Hid (Below w.heap.size w wr)/\Hid (Cc wr w.heap.size (.agg #[.slice AT C.length cT,.slice AN t.length cN,.slice AR nR cR,.int .i64 gs]))) (fun i _=>C.length-(intOf i).toNat)
 case atStart=>exact⟨0,AP _,rfl,Hd (fun j y hj=>absurd hj (Nat.not_lt_zero _)),Hd (Ay _ _),HG⟩
 case round=>
  obtain⟨k,hk,rfl,P,o,p⟩:=hrel;obtain⟨d0,d1,d2,d3⟩:=p.out.four;by_cases a3:k<C.length
  ·have l:=eG a3
   generalize C[k]=s at l;obtain⟨b,off,hA,hb,I⟩:=a7.out k s l;subst hA;simp only[Bs]at I;have e1:=(o.out.cell (p:=⟨b,off+k,none⟩) hb).trans I;have ae:=ab.out s (mG l);have a1:=Hd (HP.out s (by omega));have aa:=Hd (HQ.out s (by omega));have HY:=Hd (fun(J:GK s=true)=>LC P.out l J);have HN:=Hd (fun(J:GK s=false)=>Lp l J);have R:Hid (GK s=(Cg s.data.toList||Cl s.data.toList)):=Hd rfl;clear l I;generalize GK s=ok at *;generalize Cg s.data.toList=p1 at *;generalize Cl s.data.toList=p2 at *
   go_wp2_with fail
   refine(a1.out _).mono ?_;rintro e w1 ⟨rfl,rfl⟩;cases p1 with
   | true=>
    have T:=Hd (HY.out R.out);go_wp2;go_roundw
    case rel=>exact⟨k+1,by omega,by go_num,T,o,p⟩
    case measure=>simp[intOf];omega
   | false=>
    go_wp2_with fail
    refine(aa.out _).mono ?_;rintro e w2 ⟨rfl,a2⟩;have a4:=Hd (o.out.trans (a2.mono o.out.size));have a9:=Hd (p.out.later a2);clear a2 d0 d1 d2 d3;cases p2 with
    | true=>
     have T:=Hd (HY.out R.out);go_wp2;go_roundw
     case rel=>exact⟨k+1,by omega,by go_num,T,a4,a9⟩
     case measure=>simp[intOf];omega
    | false=>have a0:=Hd (HN.out R.out);go_wp2;go_ret;exact⟨BB (by rw[HF.out,a0.out];rfl),a4.out⟩
  ·obtain rfl:k=C.length:=by omega
   have U:=Hd (Lc P.out);rw[U.out,Bool.true_and]at HF;clear U P;go_wp2;clear d0 d1 d2 d3;go_loopw [4] (fun i wr=>∃k:Nat,k<=t.length/\i=.int .i64 k/\Hid (∀j y,j<k->t[j]?=some y->GA y=true)/\Hid (Below w.heap.size w wr)/\Hid (Cc wr w.heap.size (.agg #[.slice AT C.length cT,.slice AN t.length cN,.slice AR nR cR,.int .i64 gs]))) (fun i _=>t.length-(intOf i).toNat)
   case atStart=>exact⟨0,AP _,rfl,Hd (fun j y hj=>absurd hj (Nat.not_lt_zero _)),o,p⟩
   case round=>
    clear o p;obtain⟨k,hk,rfl,P,o,p⟩:=hrel;obtain⟨d0,d1,d2,d3⟩:=p.out.four;by_cases a3:k<t.length
    ·have l:=eG a3
     generalize t[k]=s at l;obtain⟨b,off,hA,hb,I⟩:=a8.out k s l;subst hA;simp only[Bs]at I;have e1:=(o.out.cell (p:=⟨b,off+k,none⟩) hb).trans I;have ae:=ad.out s (mG l);have a1:=Hd (HP.out s (by omega));have HY:=Hd (fun(J:GA s=true)=>LC P.out l J);have HN:=Hd (fun(J:GA s=false)=>Lp l J);have R:Hid (GA s=Cg s.data.toList):=Hd rfl;clear l I;generalize GA s=ok at *;generalize Cg s.data.toList=p1 at *;go_wp2_with fail
     refine(a1.out _).mono ?_;rintro e w1 ⟨rfl,rfl⟩;cases p1 with
     | true=>
      have T:=Hd (HY.out R.out);go_wp2;go_roundw
      case rel=>exact⟨k+1,by omega,by go_num,T,o,p⟩
      case measure=>simp[intOf];omega
     | false=>have a0:=Hd (HN.out R.out);go_wp2;go_ret;exact⟨BB (by rw[HF.out,a0.out]),o.out⟩
    ·obtain rfl:k=t.length:=by omega
     have U:=Hd (Lc P.out);go_wp2;go_ret;exact⟨BB (by rw[HF.out,U.out]),o.out⟩
theorem fL{w:World}{v:Value}{g:Gm}(h:Ci w v g):Calls Tryz.prog 91 #[v] w fun e w'=>∃o,e=.returned o/\Bj Bs w' o (g.T++g.N)/\Below w.heap.size w w':=by
 have ab:=h.small.2.2.1;have aa:=h.small.2.2.2.1;have HG:=Hd (Cc.new w 32 v);obtain⟨p,C,l,t,I,J,rfl,hT,hN,hR⟩:=h.open_;have a5:=Hd (fun y (hy:Below w.heap.size w y)=>(hT.later hy).src MM);have a6:=Hd (fun y (hy:Below w.heap.size w y)=>(hN.later hy).src MM);have a7:(g.T.map Bs).length=g.T.length:=lM _;have a8:(g.N.map Bs).length=g.N.length:=lM _;have a2:Hid (∀w1 o y,CE 9 w1 (g.T.map Bs++g.N.map Bs) o y->Bj Bs y o (g.T++g.N)):=Hd (fun w1 o y ho=>CE.arr (E:=Bs) (by rw[By];exact ho) (by rw[B5];omega))
 clear h hT hN hR;generalize g.T++g.N=L at *;generalize g.T.map Bs=i at *;generalize g.N.map Bs=j at *;generalize g.T.length=nT at *;generalize g.N.length=nN at *;generalize g.R.length=T at *;generalize g.s=P at *;subst a7;subst a8;obtain⟨d0,d1,d2,d3⟩:=HG.out.four;have a9:=Ke;go_enter Tryz.func91,Tryz.ntmps91
 go_wp2_with fail
 go_region_law (first
  | (
   refine Ep Ke (.tmp 3) (.tmp 5) ?_ ?_ (base:=w.heap.size+1) (n:=0) (m:=i.length) (N:=i.length) (v:=.slice (some ⟨w.heap.size+1,0,none⟩) 0 0) (src:=.slice p i.length C) (xs:=[]) (news:=i) ?_ ?_ ?_ ?_ ?_ ?_ ?_ ?_ ?_
   ·rfl
   ·rfl
   ·rfl
   ·rfl
   ·exact OO (W:=w.alloc _) (by simp) (AG _) (by decide) rfl
   ·exact a5.out _ (FW (Jr (Ay w _) _))
   ·omega
   ·unfold maxLen;omega
   ·omega
   ·simp
   intro A2 c2 w2 r1 r2 r3;have a3:=Hd r1;have R:Ah w2 w.heap.size 32 #[.slice p i.length C,.slice l j.length t,.slice I T J,.int .i64 P]:=r2.An ((Ah.new w 32 _).alloc _) (.inl (by omega));have f0:=R.cell 0;have f1:=R.cell 1;have f2:=R.cell 2;have f3:=R.cell 3;simp only[List.getElem?_toArray,List.getElem?_cons_zero,List.getElem?_cons_succ]at f0 f1 f2 f3;have U:Hid (Below (w.heap.size+1) (w.alloc (.cells #[.slice p i.length C,.slice l j.length t,.slice I T J,.int .i64 P] 32)) w2):=Hd ((FW ((Ay (w.alloc (.cells #[.slice p i.length C,.slice l j.length t,.slice I T J,.int .i64 P] 32)) _).mono (by simp))).trans (r2.below (by simp)))
   have a1:=U.out.size;clear r1 r2 r3 R)
  | (
   refine Ep Ke (.tmp 6) (.tmp 8) ?_ ?_ (base:=w.heap.size+1) (n:=i.length) (m:=j.length) (N:=i.length+j.length) (v:=.slice A2 i.length c2) (src:=.slice l j.length t) (xs:=i) (news:=j) ?_ ?_ ?_ ?_ ?_ ?_ ?_ ?_ ?_
   ·rfl
   ·rfl
   ·rfl
   ·rfl
   ·exact a3.out
   ·exact a6.out _ ((Ay w _).trans (U.out.mono (by omega)))
   ·rfl
   ·unfold maxLen;omega
   ·omega
   ·simp at a1 ⊢;omega
   intro A4 c4 w4 q1 q2 q3;have a4:=Hd q1;have a0:=Hd (U.out.trans (q2.below (by simp at a1 ⊢;omega)));clear q1 q2 q3))
 all_goals go_wp2
 all_goals go_ret
 all_goals refine⟨_,rfl,a2.out (w.alloc (.cells #[.slice p i.length C,.slice l j.length t,.slice I T J,.int .i64 P] 32)) _ _ ⟨A4,c4,by rw[B5];rfl,?_,?_⟩,(Ay w _).trans (a0.out.mono (by omega))⟩
 all_goals rw[show (w.alloc (.cells #[.slice p i.length C,.slice l j.length t,.slice I T J,.int .i64 P] 32)).heap.size=w.heap.size+1 by simp]
 all_goals first
  | exact a0.out
  | (rw[B5];exact a4.out)
theorem cY{w:World}{v:Value}{g:Gm}(h:Ci w v g):Calls Tryz.prog 92 #[v] w (Bb w g.known):=by
 have bk:=h.small.2.2.2.2.1;have HG:=Hd (Cc.new w 32 v);have a5:=Hd (fun s y (C:Below w.heap.size w y)=>QT (h.later C) s);have al:=Hd (fun s y (C:Below w.heap.size w y)=>ZC (h.later C) s);have HZ:Hid (g.N.length=0->g.AV g.s=false):=Hd (fun hz=>by unfold Gm.AV;rw[Bool.and_eq_false_iff,decide_eq_false_iff_not,decide_eq_false_iff_not];omega)
 have R:Hid (g.known=(g.AV g.s&&g.R.all g.EN)):=Hd rfl;have ah:Hid (∀r,g.EN r=(g.AV r.left&&r.right.all g.sym)):=Hd (fun _=>rfl);have ak:Hid (∀s,g.sym s=(g.term s||g.AV s)):=Hd (fun _=>rfl);obtain⟨AT,cT,AN,cN,AR,cR,rfl,hT,hN,hR⟩:=h.open_;obtain⟨⟨A,c,e,hc⟩,_⟩:=hR;cases e
 have HC:=Hd hc;clear h hT hN hc;generalize bf:g.known=bo at *;clear bf;by_cases h0:g.N.length=0
 ·have U:=HZ.out h0
  rw[U,Bool.false_and]at R;rw[h0]at HG ⊢;clear HZ ah ak HC a5 al U h0;generalize g.T.length=nT at *;generalize g.R.length=nR at *;generalize g.s=gs at *;go_enter Tryz.func92,Tryz.ntmps92
  go_wp2;go_ret;exact⟨BB R.out.symm,Ay _ _⟩
 have bj:((g.N.length:Int)==0)=false:=by rw[bN];omega
 have a9:=Hd (a5.out g.s);clear HZ h0;cases U:g.AV g.s with
 | false=>
  rw[U]at a9 R;clear ah ak HC a5 al U;generalize g.T.length=nT at *;generalize g.N.length=nN at *;generalize g.R.length=nR at *;generalize g.s=gs at *;go_enter Tryz.func92,Tryz.ntmps92
  go_wp2_with fail
  refine(a9.out _ (Ay w _)).mono ?_;rintro e w1 ⟨rfl,a3⟩;have af:=Hd (Dm a3);clear a3;go_wp2;go_ret;exact⟨BB R.out.symm,af.out⟩
 | true=>
  rw[U,Bool.true_and]at R;rw[U]at a9;clear U;generalize g.T.length=nT at *;generalize g.N.length=nN at *;generalize g.s=gs at *;generalize hl:g.R=l at *;clear hl;go_enter Tryz.func92,Tryz.ntmps92
  go_wp2_with fail
  refine(a9.out _ (Ay w _)).mono ?_;rintro e w1 ⟨rfl,a3⟩;have af:=Hd (Dm a3);have b5:=Hd (HG.out.later a3);clear a3;go_wp2;go_loopw [3] (fun aq wr=>∃k:Nat,k<=l.length/\aq=.int .i64 k/\Hid (∀a0 y,a0<k->l[a0]?=some y->g.EN y=true)/\Hid (Below w.heap.size w wr)/\Hid (Cc wr w.heap.size (.agg #[.slice AT nT cT,.slice AN nN cN,.slice AR l.length cR,.int .i64 gs]))) (fun aq _=>l.length-(intOf aq).toNat)
  case atStart=>exact⟨0,AP _,rfl,Hd (fun a0 y hj=>absurd hj (Nat.not_lt_zero _)),af,b5⟩
  case round=>
   rename World=>w9
   obtain⟨k,hk,rfl,HA,J,a4⟩:=hrel;obtain⟨d0,d1,d2,d3⟩:=a4.out.four;have lg:=a4.out.lt;by_cases bd:k<l.length
   ·have hx:=eG bd
    generalize l[k]=r at hx;obtain⟨b,off,hA,hb,h1,h2,⟨A2,c2,hv,b2⟩,bm,_⟩:=HC.out k r hx;subst hA;rw[hv]at h2;have HX:=Hd hx;have b7:=Hd b2;have HY:=Hd (fun(p:g.EN r=true)=>LC HA.out hx p);have au:=Hd (fun(p:g.EN r=false)=>Lp hx p);have b9:=Hd (a5.out r.left);have ag:=Hd (ah.out r);have e1:=(J.out.cell (p:=⟨b,off+k*2,none⟩) hb).trans h1;have e2:=(J.out.cell (p:=⟨b,off+k*2+1,none⟩) hb).trans h2;clear hx h1 h2 hv b2;generalize g.EN r=kr at *;generalize r.left=rl at *;generalize bh:r.right=P at *;clear bh;generalize g.AV rl=a at *
    have aa:Hid (∀y,Below w9.heap.size w9 y->y.cell? ⟨w.heap.size,0,none⟩=some (.slice AT nT cT)/\y.cell? ⟨w.heap.size,1,none⟩=some (.slice AN nN cN)/\y.cell? ⟨w.heap.size,2,none⟩=some (.slice (some ⟨b,off,none⟩) l.length cR)/\y.cell? ⟨w.heap.size,3,none⟩=some (.int .i64 gs)/\y.cell? ⟨b,off+k*2,none⟩=some (.int .i64 rl)/\y.cell? ⟨b,off+k*2+1,none⟩=some (.slice A2 P.length c2)):=Hd (fun y C=>by obtain⟨q0,q1,q2,q3⟩:=(a4.out.later C).four;have b1:=A0 hb J.out.size;exact⟨q0,q1,q2,q3,(C.cell (p:=⟨b,off+k*2,none⟩) b1).trans e1,(C.cell (p:=⟨b,off+k*2+1,none⟩) b1).trans e2⟩)
    go_wp2_with fail
    go_region_held3 (fun j=>j.cell? ⟨w.heap.size,0,none⟩=some (.slice AT nT cT)/\j.cell? ⟨w.heap.size,1,none⟩=some (.slice AN nN cN)/\j.cell? ⟨w.heap.size,2,none⟩=some (.slice (some ⟨b,off,none⟩) l.length cR)/\j.cell? ⟨w.heap.size,3,none⟩=some (.int .i64 gs)/\j.cell? ⟨b,off+k*2,none⟩=some (.int .i64 rl)/\j.cell? ⟨b,off+k*2+1,none⟩=some (.slice A2 P.length c2))
     (first|exact aa.out _ ab.out|exact aa.out _ ⟨rfl,rfl,rfl,AG _,fun _ _=>rfl⟩)
     (first|(go_at_call 46;refine(b9.out _ (FW J.out)).mono ?_;rintro e w2 ⟨rfl,az⟩;have ab:=Hd ((FW (Below.refl _ _)).trans (az.mono (AG _)));clear az))
    have b4:=Hd (J.out.trans (ab.out.mono J.out.size));have bi:=Hd (a4.out.later ab.out);cases a with
    | false=>
     have bc:kr=false:=ag.out;have ai:=Hd (au.out bc);all_goals go_wp2
     all_goals go_ret
     all_goals exact⟨BB (by rw[R.out,ai.out]),b4.out⟩
    | true=>
     go_wp2;clear d0 d1 d2 d3 e1 e2;go_loopw [4] (fun i2 wr=>∃m:Nat,m<=P.length/\i2=.int .i64 m/\Hid (∀a0 y,a0<m->P[a0]?=some y->g.sym y=true)/\Hid (Below w9.heap.size w9 wr)) (fun i2 _=>P.length-(intOf i2).toNat)
     case atStart=>exact⟨0,AP _,rfl,Hd (fun a0 y hj=>absurd hj (Nat.not_lt_zero _)),ab⟩
     case round=>
      obtain⟨m,hm,rfl,ar,t⟩:=hrel;have o:=Hd (J.out.trans (t.out.mono J.out.size));have bn:=A0 lg t.out.size;obtain⟨d0,d1,d2,d3,d4,d5⟩:=aa.out wr t.out;by_cases be:m<P.length
      ·have hs:=eG be
       generalize P[m]=s at hs;obtain⟨b3,ad,bb,b0,h3⟩:=b7.out m s hs;subst bb;simp only[BF]at h3;have d6:=(o.out.cell (p:=⟨b3,ad+m,none⟩) b0).trans h3;have ax:=Hd (fun(p:g.sym s=true)=>LC ar.out hs p);have ba:=Hd (fun(p:g.sym s=false)=>Lp hs p);have aw:=Hd (al.out s);have av:=Hd (a5.out s);have aj:=Hd (ak.out s);clear h3 hs;generalize g.sym s=sy at *;generalize g.term s=a1 at *;generalize g.AV s=a2 at *;have T:Hid (∀y,Below wr.heap.size wr y->y.cell? ⟨w.heap.size,0,none⟩=some (.slice AT nT cT)/\y.cell? ⟨w.heap.size,1,none⟩=some (.slice AN nN cN)/\y.cell? ⟨w.heap.size,2,none⟩=some (.slice (some ⟨b,off,none⟩) l.length cR)/\y.cell? ⟨w.heap.size,3,none⟩=some (.int .i64 gs)/\y.cell? ⟨b,off+k*2,none⟩=some (.int .i64 rl)/\y.cell? ⟨b,off+k*2+1,none⟩=some (.slice (some ⟨b3,ad,none⟩) P.length c2)/\y.cell? ⟨b3,ad+m,none⟩=some (.int .i64 s)):=Hd (fun y C=>by
        obtain⟨q0,q1,q2,q3,q4,q5⟩:=aa.out y (t.out.trans (C.mono t.out.size));exact⟨q0,q1,q2,q3,q4,q5,(C.cell (p:=⟨b3,ad+m,none⟩) (A0 b0 o.out.size)).trans d6⟩)
       obtain⟨I,ay,ao⟩:∃I:World->Prop,(∀j,I j->Below wr.heap.size wr j)/\(∀j,Below wr.heap.size wr j->I j):=⟨_,fun _ h=>h,fun _ h=>h⟩
       have hI:I wr.drew:=ao _ (FW (Below.refl _ _));have bl:Nonempty (Wd I):=⟨⟨_,hI⟩⟩
       have i:=Hd (fun x:Wd I=>ay _ x.ok);have XJ:=Hd ao;clear ay ao;have g0:=fun y:Wd I=>(T.out _ (i.out y)).1
       have g1:=fun y:Wd I=>(T.out _ (i.out y)).2.1
       have g2:=fun y:Wd I=>(T.out _ (i.out y)).2.2.1
       have g3:=fun y:Wd I=>(T.out _ (i.out y)).2.2.2.1
       have g4:=fun y:Wd I=>(T.out _ (i.out y)).2.2.2.2.1
       have g5:=fun y:Wd I=>(T.out _ (i.out y)).2.2.2.2.2.1
       have g6:=fun y:Wd I=>(T.out _ (i.out y)).2.2.2.2.2.2
       have CT:=Hd (fun y:Wd I=>Fh (I:=I) (v:=.bool a1) ((aw.out y.w (o.out.trans ((i.out y).mono o.out.size))).mono fun e j p=>⟨p.1,XJ.out _ ((i.out y).trans (p.2.mono (i.out y).size))⟩));have CN:=Hd (fun y:Wd I=>Fh (I:=I) (v:=.bool a2) ((av.out y.w (o.out.trans ((i.out y).mono o.out.size))).mono fun e j p=>⟨p.1,XJ.out _ ((i.out y).trans (p.2.mono (i.out y).size))⟩));clear aw av T;cases a1 with
       | true=>
        have a6:=Hd (ax.out aj.out);go_wp2_with fail
        refine Iy I (by kernel_rfl) (by kernel_rfl) hI ?_;repeat (go_big_quiet_step ((first|(go_at_call 141;exact CT.out _)|(go_at_call 46;exact CN.out _))))
        refine wpQuiet_nil ?_;intro _ a7;obtain⟨x,rfl⟩:=a7;have a8:=Hd (t.out.trans ((i.out x).mono t.out.size));have an:=Hd (o.out.trans ((i.out x).mono o.out.size));clear d0 d1 d2 d3 d4 d5 d6 g0 g1 g2 g3 g4 g5 g6;go_wp2;go_roundw
        case rel=>exact⟨m+1,by omega,by go_num,a6,a8⟩
        case measure=>simp[intOf];omega
       | false=>
        cases a2 with
        | true=>
         have a6:=Hd (ax.out aj.out);go_wp2_with fail
         refine Iy I (by kernel_rfl) (by kernel_rfl) hI ?_;repeat (go_big_quiet_step ((first|(go_at_call 141;exact CT.out _)|(go_at_call 46;exact CN.out _))))
         refine wpQuiet_nil ?_;intro _ a7;obtain⟨x,rfl⟩:=a7;have a8:=Hd (t.out.trans ((i.out x).mono t.out.size));have an:=Hd (o.out.trans ((i.out x).mono o.out.size));clear d0 d1 d2 d3 d4 d5 d6 g0 g1 g2 g3 g4 g5 g6;go_wp2;go_roundw
         case rel=>exact⟨m+1,by omega,by go_num,a6,a8⟩
         case measure=>simp[intOf];omega
        | false=>
         have ai:=Hd (ba.out aj.out);have b8:=Hd (au.out (by rw[ag.out,ai.out];rfl));go_wp2_with fail
         refine Iy I (by kernel_rfl) (by kernel_rfl) hI ?_;repeat (go_big_quiet_step ((first|(go_at_call 141;exact CT.out _)|(go_at_call 46;exact CN.out _))))
         refine wpQuiet_nil ?_;intro _ a7;obtain⟨x,rfl⟩:=a7;have a8:=Hd (t.out.trans ((i.out x).mono t.out.size));have an:=Hd (o.out.trans ((i.out x).mono o.out.size));clear d0 d1 d2 d3 d4 d5 d6 g0 g1 g2 g3 g4 g5 g6;go_wp2;go_ret;exact⟨BB (by rw[R.out,b8.out]),an.out⟩
      ·obtain rfl:m=P.length:=by omega
       have ae:=Hd (Lc ar.out);have a6:=Hd (HY.out (by rw[ag.out,ae.out];rfl));have b6:=Hd (a4.out.later t.out);go_wp2;go_roundw
       case rel=>exact⟨k+1,by omega,by go_num,a6,o,b6⟩
       case measure=>simp[intOf];omega
   ·obtain rfl:k=l.length:=by omega
    have ae:=Hd (Lc HA.out);go_wp2;go_ret;exact⟨BB (by rw[R.out,ae.out]),J.out⟩
theorem Pq(a b:Ru):CI a b=CI b a:=by unfold CI;rw[Bool.eq_iff_iff,Bool.and_eq_true,Bool.and_eq_true,beq_iff_eq,beq_iff_eq,beq_iff_eq,beq_iff_eq];exact⟨fun h=>⟨h.1.symm,h.2.symm⟩,fun h=>⟨h.1.symm,h.2.symm⟩⟩
def JX(l:List Ru)(i m:Nat):Prop:=∀(j:Nat) (x r:Ru),j<m->l[j]?=some x->l[i]?=some r->CI x r=false
theorem JX.next{l:List Ru}{i m:Nat}{x r:Ru}(h:JX l i m)(I:l[m]?=some x)(t:l[i]?=some r)(C:CI r x=false):JX l i (m+1):=by
 intro j P J R o p;by_cases e:j=m
 ·subst e
  rw[I]at o;rw[t]at p;cases o;cases p;rw[Pq];exact C
 ·exact h j P J (by omega) o p
theorem JX.all{l:List Ru}{i:Nat}(h:JX l i i)(k:Ib l i):Ib l (i+1):=by
 intro C j x r I o t p;by_cases e:C=i
 ·subst e;exact h j x r o t p
 ·exact k C j x r (by omega) o t p
theorem YG{l:List Ru}{i m:Nat}{x r:Ru}(j:m<i)(t:l[m]?=some x)(o:l[i]?=some r)(p:CI r x=true):¬Un l:=by intro h;have:=h i m x r j t o;rw[Pq,p]at this;cases this
open Classical in
theorem eW{w:World}{v:Value}{g:Gm}(h:Ci w v g):Calls Tryz.prog 93 #[v] w (Bb w g.E6):=by
 have al:=h.small.2.2.2.2.1;have HG:=Hd (Cc.new w 32 v);have HF:Hid (g.E6=decide (Un g.R)):=Hd rfl;obtain⟨AT,cT,AN,cN,AR,cR,rfl,hT,hN,hR⟩:=h.open_;obtain⟨⟨A,c,e,hc⟩,_⟩:=hR;cases e
 have HC:=Hd hc;clear h hT hN hc;generalize aj:g.E6=aq at *;clear aj;generalize g.T.length=nT at *;generalize g.N.length=nN at *;generalize g.s=gs at *;generalize g.R=l at *;go_enter Tryz.func93,Tryz.ntmps93
 go_wp2;go_loopw [3] (fun a0 wr=>∃k:Nat,k<=l.length/\a0=.int .i64 k/\Hid (Ib l k)/\Hid (Below w.heap.size w wr)/\Hid (Cc wr w.heap.size (.agg #[.slice AT nT cT,.slice AN nN cN,.slice AR l.length cR,.int .i64 gs]))) (fun a0 _=>l.length-(intOf a0).toNat)
 case atStart=>exact⟨0,AP _,rfl,Hd (fun a0 ak x r hi=>absurd hi (Nat.not_lt_zero _)),Hd (Ay _ _),HG⟩
 case round=>
  rename World=>w9
  obtain⟨k,hk,rfl,HA,HB,a7⟩:=hrel;obtain⟨C,J,P,R⟩:=a7.out.four;by_cases ah:k<l.length
  ·have hx:=eG ah
   generalize l[k]=r at hx;obtain⟨b,off,hA,hb,h1,h2,a8⟩:=HC.out k r hx;subst hA;have HX:=Hd hx;have ae:=Hd a8;have ab:=Hd h1;have ad:=Hd h2;clear hx h1 h2 a8;go_wp2;clear C J P R;go_loopw [4] (fun i2 wr=>∃m:Nat,m<=k/\i2=.int .i64 m/\Hid (JX l k m)/\Hid (Below w9.heap.size w9 wr)) (fun i2 _=>k-(intOf i2).toNat)
   case atStart=>exact⟨0,AP _,rfl,Hd (fun ak x r hj=>absurd hj (Nat.not_lt_zero _)),Hd (Below.refl _ _)⟩
   case round=>
    obtain⟨m,hm,rfl,a6,U⟩:=hrel;have a2:=Hd (HB.out.trans (U.out.mono HB.out.size));have i:=Hd (a7.out.later U.out);by_cases ai:m<k
    ·have T:=eG (show m<l.length by omega)
     generalize l[m]'(by omega)=x at T;obtain⟨b',ao,ag,_,h3,h4,a9⟩:=HC.out m x T;cases ag
     have af:=Hd (fun hs=>a6.out.next T HX.out hs);have aa:=Hd (fun hs=>YG ai T HX.out hs);obtain⟨I,a3,a4⟩:∃I:World->Prop,(∀t,I t->Below wr.heap.size wr t)/\(∀t,Below wr.heap.size wr t->I t):=⟨_,fun _ h=>h,fun _ h=>h⟩
     have hI:I wr.drew:=a4 _ (FW (Below.refl _ _));have an:Nonempty (Wd I):=⟨⟨_,hI⟩⟩
     have o:=Hd (fun x:Wd I=>a3 _ x.ok);have p:=Hd (fun x:Wd I=>a2.out.trans ((a3 _ x.ok).mono a2.out.size));have XJ:=Hd a4;clear a3 a4;have g0:=fun y:Wd I=>((i.out.later (o.out y)).four).1
     have g1:=fun y:Wd I=>((i.out.later (o.out y)).four).2.1
     have g2:=fun y:Wd I=>((i.out.later (o.out y)).four).2.2.1
     have g3:=fun y:Wd I=>((i.out.later (o.out y)).four).2.2.2
     have g4:=fun y:Wd I=>((p.out y).cell (p:=⟨b,off+k*2,none⟩) hb).trans ab.out
     have g5:=fun y:Wd I=>((p.out y).cell (p:=⟨b,off+k*2+1,none⟩) hb).trans ad.out
     have g6:=fun y:Wd I=>((p.out y).cell (p:=⟨b,off+m*2,none⟩) hb).trans h3
     have g7:=fun y:Wd I=>((p.out y).cell (p:=⟨b,off+m*2+1,none⟩) hb).trans h4
     have CS:=Hd (fun y:Wd I=>Fh (I:=I) (v:=.bool (CI r x)) ((SI (ae.out.later (p.out y)) (a9.later (p.out y))).mono fun e t hh=>⟨hh.1,XJ.out _ ((o.out y).trans (hh.2.mono (o.out y).size))⟩));simp only[CY]at CS;obtain⟨C,J,P,R⟩:=i.out.four;clear h3 h4 a9 T;generalize CI r x=q at *;generalize r.left=rl at *;generalize r.v=rv at *;generalize x.left=xl at *;generalize x.v=xv at *;cases q with
     | true=>
      have j:=Hd (aa.out rfl);go_wp2_with fail
      refine Iy I (by kernel_rfl) (by kernel_rfl) hI ?_;repeat (go_big_quiet_step ((first|(go_at_call 49;exact CS.out _))))
      refine wpQuiet_nil ?_;intro _ a5;obtain⟨x,rfl⟩:=a5;have a1:=Hd (p.out x);clear C J P R g0 g1 g2 g3 g4 g5 g6 g7;go_wp2;go_ret;exact⟨BB (by rw[HF.out];exact(decide_eq_false j.out).symm),a1.out⟩
     | false=>
      have j:=Hd (af.out rfl);go_wp2_with fail
      refine Iy I (by kernel_rfl) (by kernel_rfl) hI ?_;repeat (go_big_quiet_step ((first|(go_at_call 49;exact CS.out _))))
      refine wpQuiet_nil ?_;intro _ a5;obtain⟨x,rfl⟩:=a5;have a1:=Hd (U.out.trans ((o.out x).mono U.out.size));clear C J P R g0 g1 g2 g3 g4 g5 g6 g7;go_wp2;go_roundw
      case rel=>exact⟨m+1,by omega,by go_num,j,a1⟩
      case measure=>simp[intOf];omega
    ·obtain rfl:m=k:=by omega
     have j:=Hd (a6.out.all HA.out);obtain⟨C,J,P,R⟩:=i.out.four;go_wp2;go_roundw
     case rel=>exact⟨m+1,by omega,by go_num,j,a2,i⟩
     case measure=>simp[intOf];omega
  ·obtain rfl:k=l.length:=by omega
   have j:=Hd HA.out.all;go_wp2;go_ret;exact⟨BB (by rw[HF.out];exact j.out.symm),HB.out⟩
section
variable {w:World} {v:Value} {g:Gm}
theorem Z2(h:Ci w v g)(k:Nat)(y:World)(P:Below w.heap.size w y):Calls Tryz.prog 94 #[v,.int .i64 ((g.T.length:Int)+1+k)] y (fun e w'=>∃A n c,e=.returned (.slice A n c)/\(g.R.any (Gm.left ((g.T.length:Int)+1+k))=true->0<n/\∃b off,A=some ⟨b,off,none⟩/\w'.cell? ⟨b,off,none⟩=some (.int .i64 (g.first k)))/\(g.R.any (Gm.left ((g.T.length:Int)+1+k))=false->n=0)/\Below y.heap.size y w'):=
 (VX (h.later P) _).mono fun e w' ⟨a0,J,l⟩=>by have U:=h.small.2.2.2.2.1;have t:=l.arr (by have:=N9 g.R ((g.T.length:Int)+1+k) g.R.length;omega);obtain⟨A,c,rfl,_,C⟩:=l;refine⟨A,_,c,J,fun i=>?_,fun i=>by rw[Qe i];rfl,Dm C⟩;obtain⟨r,o⟩:=TL i;rw[lM,o];refine⟨by simp,?_⟩;obtain⟨⟨R,T,e,I⟩,_⟩:=t;simp only[Value.slice.injEq]at e;obtain⟨rfl,_,rfl⟩:=e;obtain⟨b,off,p,_,j⟩:=I 0 _ (by rw[o];rfl);exact⟨b,off,p,by rw[Nat.add_zero]at j;exact j⟩
theorem XT(h:Ci w v g):Calls Tryz.prog 41 #[v] w (Ends w g.check):=by
 have b5:=h.small.2.2.1;have b4:=h.small.2.2.2.1;have HG:=Hd (Cc.new w 32 v);have aw:=Hd (fun k=>@Gm.GZ.next g k);have ax:=Hd (@Gm.GZ.all g);have ay:=Hd (fun k=>@TM g k);have t:Hid (g.check=if g.DH then(if g.form then(if g.once then(if g.known then(if g.E6 then(if g.each then 0 else 9) else 8) else 1) else 8) else 10) else 7):=Hd rfl;have K1:=Hd (fun y (p:Below w.heap.size w y)=>Ux (h.later p));have K2:=Hd (fun y (p:Below w.heap.size w y)=>ZT (h.later p));have K3:=Hd (fun y (p:Below w.heap.size w y)=>fL (h.later p))
 have K4:Hid (∀y a3,Bj Bs y a3 (g.T++g.N)->Calls Tryz.prog 90 #[a3] y (Bb y g.once)):=Hd (fun y a3 ho=>(dZ ho).mono fun e w' ⟨he,d,hd⟩=>⟨he,by rw[hd];exact Ia (Below.refl _ y) d⟩);have K5:=Hd (fun y (p:Below w.heap.size w y)=>cY (h.later p));have K6:=Hd (fun y (p:Below w.heap.size w y)=>eW (h.later p));have b2:=Hd (fun k y (p:Below w.heap.size w y)=>Z2 h k y p);obtain⟨AT,cT,AN,cN,AR,cR,rfl,hT,hN,hR⟩:=h.open_;clear h hT hN hR;generalize g.DH=a1 at *;generalize g.form=a2 at *;generalize g.once=a4 at *;generalize g.known=a5 at *;generalize g.E6=a6 at *
 generalize g.each=a8 at *;generalize g.check=b7 at *;generalize g.T.length=nT at *;generalize g.N.length=J at *;generalize g.R.length=nR at *;generalize g.s=gs at *;generalize g.T++g.N=L at *;go_enter Tryz.func41,Tryz.ntmps41
 go_wp2_with fail
 refine(K1.out _ (Ay w _)).mono ?_;rintro e w1 ⟨rfl,a7⟩;have P:=Hd (Dm a7);have an:=Hd (HG.out.later a7);clear a7;cases a1 with
 | false=>go_wp2;go_ret;exact⟨by rw[t.out];rfl,P.out⟩
 | true=>
 obtain⟨i,j,l,o⟩:=an.out.four;go_wp2_with fail
 refine(K2.out _ P.out).mono ?_;rintro e w2 ⟨rfl,a9⟩;have R:=Hd (P.out.trans (a9.mono P.out.size));have ao:=Hd (an.out.later a9);clear a9 i j l o;cases a2 with
 | false=>go_wp2;go_ret;exact⟨by rw[t.out];rfl,R.out⟩
 | true=>
 obtain⟨i,j,l,o⟩:=ao.out.four;go_wp2_with fail
 refine(K3.out _ R.out).mono ?_;rintro e w3 ⟨a3,rfl,ho,aa⟩;have HO:=Hd ho;clear ho;have aj:=Hd (R.out.trans (aa.mono R.out.size));have aq:=Hd (ao.out.later aa);clear aa i j l o;obtain⟨i,j,l,o⟩:=aq.out.four;go_wp2_with fail
 refine(K4.out _ _ HO.out).mono ?_;rintro e w4 ⟨rfl,ab⟩;have T:=Hd (aj.out.trans (ab.mono aj.out.size));have ar:=Hd (aq.out.later ab);clear ab i j l o;cases a4 with
 | false=>go_wp2;go_ret;exact⟨by rw[t.out];rfl,T.out⟩
 | true=>
 obtain⟨i,j,l,o⟩:=ar.out.four;go_wp2_with fail
 refine(K5.out _ T.out).mono ?_;rintro e w5 ⟨rfl,ad⟩;have U:=Hd (T.out.trans (ad.mono T.out.size));have au:=Hd (ar.out.later ad);clear ad i j l o;cases a5 with
 | false=>go_wp2;go_ret;exact⟨by rw[t.out];rfl,U.out⟩
 | true=>
 obtain⟨i,j,l,o⟩:=au.out.four;go_wp2_with fail
 refine(K6.out _ U.out).mono ?_;rintro e w6 ⟨rfl,ae⟩;have ak:=Hd (U.out.trans (ae.mono U.out.size));have az:=Hd (au.out.later ae);clear ae i j l o;cases a6 with
 | false=>go_wp2;go_ret;exact⟨by rw[t.out];rfl,ak.out⟩
 | true=>
 go_wp2;go_loopw [3] (fun ai wr=>∃k:Nat,k<=J/\ai=.int .i64 k/\Hid (g.GZ k)/\Hid (Below w.heap.size w wr)/\Hid (Cc wr w.heap.size (.agg #[.slice AT nT cT,.slice AN J cN,.slice AR nR cR,.int .i64 gs]))) (fun ai _=>J-(intOf ai).toNat)
 case atStart=>exact⟨0,AP _,rfl,Hd (fun b6 hj=>absurd hj (Nat.not_lt_zero _)),ak,az⟩
 case round=>
  obtain⟨k,hk,rfl,HE,a0,av⟩:=hrel;obtain⟨i,j,l,o⟩:=av.out.four;by_cases b3:k<J
  ·have b1:=Hd (b2.out k)
   have HX:=Hd (aw.out k HE.out);have HY:=Hd (ay.out k b3);go_wp2_with fail
   refine(b1.out _ a0.out).mono ?_;rintro e w9 ⟨A,n,c,rfl,ag,ah,af⟩;have al:=Hd (a0.out.trans (af.mono a0.out.size));have b0:=Hd (av.out.later af);clear i j l o af;cases C:g.R.any (Gm.left ((nT:Int)+1+k)) with
   | true=>
    have hn:((n:Int)==0)=false:=by have:=(ag C).1;rw[bN];omega
    have I:=Hd (HX.out C);clear ag ah C;go_wp2;go_roundw
    case rel=>exact⟨k+1,by omega,by go_num,I,al,b0⟩
    case measure=>simp[intOf];omega
   | false=>have hn:=ah C;have I:=Hd (HY.out C);subst hn;clear ag ah C;go_wp2;go_ret;exact⟨by rw[t.out,I.out];rfl,al.out⟩
  ·obtain rfl:k=J:=by omega
   have I:=Hd (ax.out HE.out);go_wp2;go_ret;exact⟨by rw[t.out,I.out];rfl,a0.out⟩
end
end Go.Proofs.YthaacmablcpdfaaGreatDoor
