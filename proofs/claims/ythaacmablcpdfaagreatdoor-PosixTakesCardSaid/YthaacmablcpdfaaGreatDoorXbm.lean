/- PosixTakes. -/
import Derived.Test.YthaacmablcpdfaaGreatDoorXbl
set_option linter.all false
set_option maxRecDepth 100000
set_option maxHeartbeats 0
namespace Go.Proofs.YthaacmablcpdfaaGreatDoor
open Go.RowKit
variable{w:World}
def Xn{tb:Nat}(h:GX w tb):tb<w.heap.size:=by obtain⟨_,_,_,_,_,_,_,_,_,_,_,_,_,_,_,_,_,_,_,_,_,h,-⟩:=h;exact h.lt
def dL{A:Option Addr}{n c:Nat}(R:Gp w)(hT:Ik w)(hl:n<=40->∀k,k<n->∃b off,A=some ⟨b,off,none⟩/\b<w.heap.size/\∃x:Int,w.cell? ⟨b,off+k,none⟩=some (.int .i64 x)) :
  () 5 #[.slice A n c] w (fun e w'=>e=.returned (.bool true)/\Below w w w'):=by
 have HA:=Hd (fun y (j:Below w w y)=>Vk (R.later j) (hT.later j));have HM:=Hd (Vy R);clear R hT;by_cases hn:n<=40
 case neg=>
  have bi:(40:Int)<(n:Int):=by omega
  have ar:=Hd (HA w (Below.refl _ _));clear hl HA HM hn;go_enter Tryz.func5,Tryz.ntmps5
  go_wp2_with (go_at_call 9;refine ar.mono ?_;rintro e w1 ⟨rfl,i⟩;have HB:=Hd i;clear i)
  go_ret;exact⟨rfl,HB⟩
 have HL:=Hd (hl hn);have bi:¬(40:Int)<(n:Int):=by omega
 clear hl;go_enter Tryz.func5,Tryz.ntmps5
 go_wp2_with (first
  | (
    go_at_call 13;refine HM.mono ?_;rintro e w1 ⟨tb,rfl,ht,ai⟩
    have af:=Hd (fC ht (Xn ht));have b5:=Hd ht.JE;have U:=Hd ai;clear ht ai HM)
  | (
    go_at_call 16;refine af.mono ?_;rintro e w2 ⟨eb,rb,bm,rfl,he,bc⟩
    have ad:Hid (GR w1 w2 eb tb rb (.slice none 0 0) ⟨[0],[],[]⟩ [] [] 0 bm (.slice none 0 0)):=Hd ⟨he,rfl,⟨rfl,.inl ⟨rfl,rfl⟩⟩,fun b i=>by cases i⟩;clear he bc af))
 go_loopw [5,6,7] (fun tv ii bv wr=>∃(k:Nat) (cc:Cf) (q:List Nat) (a8:List (Nd×Value)) (steps:Nat) (sv nv:Value),k<=n/\ii=.int .i64 k/\Hid (GR w1 wr eb tb rb tv cc q a8 steps sv nv)/\Hid (CP cc q/\q.length<=k/\steps<=1002*k)) (fun _ ii _ _=>n-(intOf ii).toNat)
 case atStart=>exact⟨0,_,_,_,_,_,_,AZ _,rfl,ad,Hd ⟨CP.start,AG _,AG _⟩⟩
 case round=>
  clear ad;obtain⟨k,cc,q,a8,steps,sv,nv,hk,rfl,o,t⟩:=hrel;rename World=>w3
  obtain⟨A2,c2,e2⟩:=CG o.row;subst e2;have I:=o.Fk.base;by_cases bh:k<n
  ·obtain⟨b,off,rfl,C,x,hx⟩:=HL k bh
   have a3:Hid (∀y,Below w1 w1 y->b<y.heap.size/\y.cell? ⟨b,off+k,none⟩=some (.int .i64 x)):=Hd (fun y j=>by have h:=U.trans (j.mono U.size);exact⟨AW C h.size,(h.cell (p:=⟨b,off+k,none⟩) C).trans hx⟩)
   clear C hx;obtain⟨C,d0⟩:=a3 w3 I;obtain⟨m,R⟩:∃m,q.length=m:=⟨_,rfl⟩
   have hq:=t.2.1;rw[R]at o;rcases ZB o t.1 (by have:=t.out;omega) (by have:=t.out;omega) x with⟨b1,p,al,a6⟩|⟨ao,p,ab,c3,aq,ak,a6⟩
   · have HP:=Hd p
     have a1:=Hd (fun y j=>a6 y j (q.length:Nat));have T:=Hd I;rw[R]at a1 ⊢;clear p a6 I;have bf:(k:Int)<(n:Int):=by omega
     have bd:(0:Int)<=(k:Int):=by omega
     cases b1 with
     | false=>
      go_wp2_with (first
       | (go_at_call 17;refine HP.mono ?_;rintro e l ⟨rfl,i⟩;have J:=Hd i;have a4:=Hd (a1 _ i);clear d0 C;obtain⟨C,d0⟩:=a3 l (T.trans (i.mono T.size));clear i)
       | (go_at_call 18;refine a4.mono ?_;rintro e w5 ⟨kk,be,rfl,i⟩;have P:=Hd (J.trans (i.mono J.size));clear i))
      go_roundw
      case rel=>exact⟨k+1,cc,q,a8,steps,sv,nv,by omega,by go_num,Hd ⟨o.Fk.later P,o.tr,AV o.row P,o.off⟩,Hd ⟨t.1,by omega,by have:=t.2.2;omega⟩⟩
      case measure=>simp[intOf];omega
     | true=>
      have bj:decide (0<x)=false:=decide_eq_false (al rfl);clear al;go_wp2_with (first
       | (go_at_call 17;refine HP.mono ?_;rintro e l ⟨rfl,i⟩;have J:=Hd i;have a4:=Hd (a1 _ i);clear d0 C;obtain⟨C,d0⟩:=a3 l (T.trans (i.mono T.size));clear i)
       | (go_at_call 18;refine a4.mono ?_;rintro e w5 ⟨kk,be,rfl,i⟩;have P:=Hd (J.trans (i.mono J.size));clear i))
      go_roundw
      case rel=>exact⟨k+1,cc,q,a8,steps,sv,nv,by omega,by go_num,Hd ⟨o.Fk.later P,o.tr,AV o.row P,o.off⟩,Hd ⟨t.1,by omega,by have:=t.2.2;omega⟩⟩
      case measure=>simp[intOf];omega
   · have HP:=Hd p
     have a1:=Hd a6;have b6:=Hd ak;have ba:=Hd aq;have T:=Hd I;rw[R]at a1 ⊢;clear p a6 ak aq I;have bf:(k:Int)<(n:Int):=by omega
     have bd:(0:Int)<=(k:Int):=by omega
     have bj:decide (0<x)=true:=decide_eq_true ao;clear ao;have b7:=Hd (Lg 3 x rfl);go_wp2_with (first
      | (go_at_call 17;refine HP.mono ?_;rintro e l ⟨rfl,i⟩;have J:=Hd i;have a4:=Hd (a1 _ i);clear d0 C;obtain⟨C,d0⟩:=a3 l (T.trans (i.mono T.size));clear i)
      | (
        go_at_call 18;refine a4.mono ?_;rintro e w5 ⟨rfl,he⟩
        obtain⟨T5,bl,bn,bk,a5,an⟩:=o.push J he;have b2:=Hd a5;have b9:=Hd an;clear C d0;obtain⟨C,d0⟩:=a3 w5 a5.Fk.base;have ag:=Hd a5.row;rw[R]at ag;have br:=a5.Fk.base.size;clear he a5 an)
      | (
        at_builtin;refine DY Ke (.tmp 50) (.tmp 55) rfl rfl (base:=w1.heap.size) (n:=m) (m:=1) (N:=m+1) (xs:=q.map AO) (news:=[.int .i64 x]) rfl rfl (ag.alloc _) (b7 _) rfl (by unfold maxLen;omega) (by omega) (by simp;omega) ?_
        intro A6 c6 w6 r1 r2 r3;have b3:=Hd (b2.app (AH w5 _) (t:=ab) (by rw[R,<-show Value.int .i64 x=AO ab by rw[ba.out];rfl];exact r1) r2 r3);clear r1 r2 r3))
     go_roundw
     case rel=>exact⟨k+1,c3,q++[ab],T5,bl,bn,bk,by omega,by go_num,b3,Hd ⟨b6,by rw[BO,R,List.length_singleton];omega,by have:=t.2.2;have:=b9.out;omega⟩⟩
     case measure=>simp[intOf];omega
  ·obtain rfl:n=k:=by omega
   have au:=Hd (fun y (j:Below w3 w3 y)=>HA y (U.trans ((I.trans (j.mono I.size)).mono U.size)));have T:Hid (∀y,Below w3 w3 y->Below w w y):=Hd (fun y j=>U.trans ((I.trans (j.mono I.size)).mono U.size));have hq:=t.2.1;have bq:¬(n:Int)<(n:Int):=by omega
   obtain⟨ql,a7⟩:∃ql,q.length=ql:=⟨_,rfl⟩
   rw[a7]at o ⊢;rcases Yk o t.1 (by omega) (by have:=t.2.2;omega) with hf|⟨kr,hf⟩
   · have HF:=Hd hf
     clear hf I;go_wp2_with (first
      | (go_at_call 19;refine HF.mono ?_;rintro e l ⟨rfl,i⟩;have av:=Hd (au l i);have J:=Hd i;clear i)
      | (go_at_call 9;refine av.mono ?_;rintro e w5 ⟨rfl,i⟩;have P:=Hd (T _ (J.trans (i.mono J.size)));clear i))
     go_ret;exact⟨rfl,P⟩
   · have HF:=Hd hf
     obtain⟨u,hu,aj⟩:=b5.out;have HU:=Hd (And.intro hu aj);clear hf hu aj;clear I;go_wp2_with (first
      | (
        go_at_call 19;refine HF.mono ?_;rintro e l ⟨rfl,c4,T4,bw,bx,bt,xs,f1,f2,f3,f4,f5,f6,f7⟩
        have h0:Below w w l:=U.trans (f1.base.mono U.size);have ae:=Hd (Qc f1);have b4:=Hd (HU.2 l f1.base);have aa:∀y,Below l l y->Gb (fun b=>b<y.heap.size) y rb T4:=fun y j=>(f1.tree.later j).gW (by omega) (fun _ h=>h) (fun a0 p=>by have:=(f6 a0 p).2;omega)
        have b0:Hid (∀y,Below l l y->() 21 #[(rb,0),u,kr] y fun e w'=>e=.returned (.bool true)/\Below y y w'):=Hd (fun y j=>Ya (HU.1.later (f1.base.trans (j.mono f1.base.size))).gn (aa y j) f3 (by omega) (fun a0 p=>by have:=(f6 a0 p).2;omega) f7 (fun a0 p=>(f6 a0 p).1));have bb:Hid (∀y,Below l l y->() 20 #[(eb,0)] y (fun e w'=>e=.returned (rb,0)/\w'=y)/\() 23 #[(rb,0),kr] y fun e w'=>∃A' c',e=.returned (.slice A' ql c')/\Below y y w'/\() 22 #[.slice A' ql c',.slice A2 ql c2] w' fun e w'=>e=.returned (.bool true)/\∃z,z=w'/\Below y y w'):=Hd (fun y j=>⟨Qc (f1.later j),(iX (aa y j) f3 (by omega) (fun a0 p=>by have:=(f6 a0 p).2;omega) f7).mono fun e w' h=>by
         rw[f5]at h;obtain⟨bu,rfl,A',c',rfl,g1,g2⟩:=h;rw[a7]at g1 ⊢;rw[a7]at f2;exact⟨A',c',rfl,g2,(iO g1 (AV f2 (j.trans (g2.mono j.size))) a7 a7 (by omega)).mono fun e bo h=>⟨h.1,bo,rfl,g2.trans (h.2.mono g2.size)⟩⟩⟩)
        have ax:=Hd (fun y (j:Below l l y)=>HA y (h0.trans (j.mono h0.size)));have H0:=Hd h0;clear f1 f2 f3 f4 f5 f6 f7 h0 aa)
      | (go_at_call 15;refine b4.mono ?_;rintro e w5 ⟨rfl,i⟩;have P:=Hd i;have az:=Hd (b0 w5 i);clear i)
      | (go_at_call 21;refine az.mono ?_;rintro e w6 ⟨rfl,i⟩;have a2:=Hd (P.trans (i.mono P.size));have ah:=Hd (bb w6 a2);clear i ae)
      | (go_at_call 20;refine ae.mono ?_;rintro e w9 ⟨rfl,rfl⟩)
      | (go_at_call 20;refine ah.1.mono ?_;rintro e w9 ⟨rfl,rfl⟩)
      | (go_at_call 23;refine ah.2.mono ?_;rintro e w7 ⟨Ay,cy,rfl,i,hs⟩;have bp:=Hd (a2.trans (i.mono a2.size));have b8:=Hd hs;clear i hs)
      | (go_at_call 22;refine b8.mono ?_;rintro e w8 ⟨rfl,z,rfl,i⟩;have a9:=Hd (a2.trans (i.mono a2.size));have aw:=Hd (ax z a9);clear i)
      | (go_at_call 9;refine aw.mono ?_;rintro e w9 ⟨rfl,i⟩;have ay:=Hd (H0.trans ((a9.trans (i.mono a9.size)).mono H0.size));clear i))
     go_ret;exact⟨rfl,ay⟩
end Go.Proofs.YthaacmablcpdfaaGreatDoor
