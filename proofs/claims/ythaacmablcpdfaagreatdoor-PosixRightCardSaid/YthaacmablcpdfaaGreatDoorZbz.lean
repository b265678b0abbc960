/- A right table. The table of the POSIX grammar. The POSIX grammar as the program has it. PosixRight. -/
import Derived.Test.YthaacmablcpdfaaGreatDoorZbx
import Derived.BigQuiet
import Derived.Deep.QuietTactic
import Derived.Test.YthaacmablcpdfaaGreatDoorZbv
import Derived.Test.YthaacmablcpdfaaGreatDoorZby
import Derived.Test.YthaacmablcpdfaaGreatDoorNm
namespace Go.Proofs.YthaacmablcpdfaaGreatDoor
open Go.RowKit
set_option linter.unusedVariables false
set_option maxRecDepth 100000
def actOk(nA nR:Nat)(x:It):Prop:=(x.1=0∧x.2=0)∨(x.1=3∧x.2=0)∨(x.1=1∧x.2<nA)∨(x.1=2∧x.2<nR)
instance(nA nR:Nat)(x:It):Decidable (actOk nA nR x):=by unfold actOk;infer_instance
theorem rAct_any{w:World}{Ar Aa Ag:Option Addr}{nt nn nA nR cr ca ng cg:Nat}{x:It}(hx:actOk nA nR x)(hR:nR≤1000000) :
  Calls Tryz.prog 30 #[.agg #[.slice Ar (nR+1) cr,.int .i64 nt,.int .i64 nn,.slice Aa nA ca,.slice Ag ng cg],.agg #[.int .i64 x.1,.int .i64 x.2]] w fun e w'=>e=.returned (.bool true)∧Below w.heap.size w w':=by
 obtain⟨xk,xn⟩:=x;simp only;rcases hx with⟨h1,h2⟩|⟨h1,h2⟩|⟨h1,h2⟩|⟨h1,h2⟩
 ·simp only at h1 h2
  subst h1 h2;go_enter Tryz.func30,Tryz.ntmps30
  go_wp2;go_ret;exact⟨rfl,(below_alloc w _).alloc (by simp) _⟩
 ·simp only at h1 h2
  subst h1 h2;go_enter Tryz.func30,Tryz.ntmps30
  go_wp2;go_ret;exact⟨rfl,(below_alloc w _).alloc (by simp) _⟩
 ·simp only at h1 h2
  subst h1;have q1:(0:Int)≤(xn:Int):=by omega
  have q2:(xn:Int)<(nA:Int):=by omega
  go_enter Tryz.func30,Tryz.ntmps30
  go_wp2;go_ret;refine⟨by first|rfl|simp,(below_alloc w _).alloc (by simp) _⟩
 ·simp only at h1 h2
  subst h1;have q1:(0:Int)≤(xn:Int):=by omega
  have q2:(xn:Int)<(nR:Int):=by omega
  go_enter Tryz.func30,Tryz.ntmps30
  go_wp2;go_ret;refine⟨by first|rfl|simp,(below_alloc w _).alloc (by simp) _⟩
structure RightP(g:Gz)(E:List (List It))(K:List (List (Nat×Nat))):Prop where
 some_:0<E.length
 few:E.length≤1000000
 acts:∀i,i<E.length→∀x∈actRow g E K i,actOk E.length g.R.length x
 goto:∀i,i<E.length→∀x∈gotoRow g E i,-1≤x∧x<(E.length:Int)
theorem TblA.open_{A:Nat→Prop}{w:World}{v:Value}{g:Gz}{E:List (List It)}{K:List (List (Nat×Nat))}(h:TblA A w v g E K):∃Ar cr Aa ca Ag cg,v=.agg #[.slice Ar (g.R.length+1) cr,.int .i64 g.nt,.int .i64 g.nn,.slice Aa E.length ca,.slice Ag E.length cg] ∧
  (∀k,k≤g.R.length→∃b off rv,Ar=some ⟨b,off,none⟩∧b<w.heap.size∧A b∧w.cell? ⟨b,off+k*2,none⟩=some (.int .i64 ((g.rule k).1:Nat))∧w.cell? ⟨b,off+k*2+1,none⟩=some rv∧NumsA A w rv (g.right k)) ∧
  (∀i,i<E.length→∃b off Ax cx,Aa=some ⟨b,off,none⟩∧b<w.heap.size∧A b∧w.cell? ⟨b,off+i,none⟩=some (.slice Ax (g.nt+1) cx)∧PrsA A w (.slice Ax (g.nt+1) cx) (actRow g E K i)) ∧
  (∀i,i<E.length→∃b off Ax cx,Ag=some ⟨b,off,none⟩∧b<w.heap.size∧A b∧w.cell? ⟨b,off+i,none⟩=some (.slice Ax g.nn cx)∧IntsA A w (.slice Ax g.nn cx) (gotoRow g E i)):=by
 obtain⟨rv,av,gv,rfl,⟨Ar,cr,rfl,-,-,hr⟩,⟨Aa,ca,rfl,-,-,ha⟩,⟨Ag,cg,rfl,-,-,hg⟩⟩:=h;refine⟨Ar,cr,Aa,ca,Ag,cg,rfl,fun k hk=>?_,fun i hi=>?_,fun i hi=>?_⟩
 ·obtain⟨b,off,e,hA,hlt,hc⟩:=hr k (by omega)
  obtain⟨x0,h0,e0⟩:=hc 0 (by omega);obtain⟨x1,h1,e1⟩:=hc 1 (by omega);rw[if_pos rfl]at e0;rw[if_neg (by omega)]at e1;exact⟨b,off,x1,e,hlt,hA,by rw[←Nat.add_zero (off+k*2),h0,e0],h1,e1⟩
 ·obtain⟨b,off,e,hA,hlt,hc⟩:=ha i hi
  obtain⟨x0,h0,e0⟩:=hc 0 (by omega);have e0:PrsA A w x0 (actRow g E K i):=e0;obtain⟨Ax,cx,rfl,-⟩:=e0.form;rw[Nat.mul_one,Nat.add_zero]at h0;have hl:(actRow g E K i).length=g.nt+1:=by simp[actRow]
  rw[hl]at h0 e0;exact⟨b,off,Ax,cx,e,hlt,hA,h0,e0⟩
 ·obtain⟨b,off,e,hA,hlt,hc⟩:=hg i hi
  obtain⟨x0,h0,e0⟩:=hc 0 (by omega);have e0:IntsA A w x0 (gotoRow g E i):=e0;obtain⟨Ax,cx,rfl,-,-,-⟩:=id e0;rw[Nat.mul_one,Nat.add_zero]at h0;have hl:(gotoRow g E i).length=g.nn:=by simp[gotoRow]
  rw[hl]at h0 e0;exact⟨b,off,Ax,cx,e,hlt,hA,h0,e0⟩
theorem IntsA.at_{A:Nat→Prop}{w:World}{Ad:Option Addr}{n c:Nat}{l:List Int}(h:IntsA A w (.slice Ad n c) l){k:Nat}{x:Int}(hx:l[k]?=some x):∃b off,Ad=some ⟨b,off,none⟩∧A b∧b<w.heap.size∧w.cell? ⟨b,off+k,none⟩=some (.int .i64 x):=by
 obtain⟨Ad',c',hv,-,-,hr⟩:=h;cases hv
 have hk:=(sG.1 hx).1;obtain⟨b,off,hA,hAb,hlt,hc⟩:=hr k hk;obtain⟨y0,h0,e0⟩:=hc 0 (by omega);have hg:l.getD k 0=x:=by rw[dG,hx];rfl
 rw[hg]at e0;refine⟨b,off,hA,hAb,hlt,?_⟩;rw[Nat.mul_one,Nat.add_zero]at h0;rw[h0,e0]
set_option maxHeartbeats 6400000 in
theorem rRight_any{w:World}{v:Value}{g:Gz}{E:List (List It)}{K:List (List (Nat×Nat))}(h:TblA (fun b=>b<w.heap.size) w v g E K)(hf:g.Fit)(hr:RightP g E K) :
  Calls Tryz.prog 8 #[v] w fun e w'=>e=.returned (.bool true)∧Below w.heap.size w w':=by
 obtain⟨Ar,cr,Aa,ca,Ag,cg,rfl,h1,h2,h3⟩:=h.open_;have hnt:=hf.nt;have hnn:=hf.nn;have hnr:=hf.nr;have hpos:=hr.some_;have hfew:=hr.few;have HR:Hid (∀y,Below w.heap.size w y→∀k,k<g.R.length→∃(b off l:Nat),Ar=some ⟨b,off,none⟩∧b<y.heap.size∧y.cell? ⟨b,off+k*2,none⟩=some (.int .i64 (l:Int))∧g.nt<l∧l≤g.nt+g.nn):=Hd (fun y hy k hk=>by
  obtain⟨b,off,rv,e,hlt,-,c0,-,-⟩:=h1 k (by omega);have hl:=hf.left (g.rule k) (by unfold Gz.rule;rw[if_neg (by omega),dG,eG hk];exact List.getElem_mem hk)
  exact⟨b,off,_,e,ltL hlt hy.size,(hy.cell (p:=⟨b,off+k*2,none⟩) hlt).trans c0,hl.1,hl.2⟩)
 have HA:Hid (∀y,Below w.heap.size w y→∀i,i<E.length→∃b off Ax cx,Aa=some ⟨b,off,none⟩∧b<y.heap.size∧y.cell? ⟨b,off+i,none⟩=some (.slice Ax (g.nt+1) cx)∧∀t,t<g.nt+1→∃b2 off2 x,Ax=some ⟨b2,off2,none⟩∧b2<y.heap.size∧y.cell? ⟨b2,off2+t*2,none⟩=some (.int .i64 (x.1:Nat))∧y.cell? ⟨b2,off2+t*2+1,none⟩=some (.int .i64 (x.2:Nat))∧actOk E.length g.R.length x):=Hd (fun y hy i hi=>by
  obtain⟨b,off,Ax,cx,e,hlt,-,c0,hp⟩:=h2 i hi;refine⟨b,off,Ax,cx,e,ltL hlt hy.size,(hy.cell (p:=⟨b,off+i,none⟩) hlt).trans c0,fun t ht=>?_⟩;obtain⟨x,hx⟩:∃x,(actRow g E K i)[t]?=some x:=⟨_,eG (by simpa [actRow] using ht)⟩
  obtain⟨b2,off2,e2,hlt2,-,d0,d1⟩:=hp.at_ hx;exact⟨b2,off2,x,e2,ltL hlt2 hy.size,(hy.cell (p:=⟨b2,off2+t*2,none⟩) hlt2).trans d0,(hy.cell (p:=⟨b2,off2+t*2+1,none⟩) hlt2).trans d1,hr.acts i hi x (mG hx)⟩)
 have HG:Hid (∀y,Below w.heap.size w y→∀i,i<E.length→∃b off Ax cx,Ag=some ⟨b,off,none⟩∧b<y.heap.size∧y.cell? ⟨b,off+i,none⟩=some (.slice Ax g.nn cx)∧∀t,t<g.nn→∃b2 off2 x,Ax=some ⟨b2,off2,none⟩∧b2<y.heap.size∧y.cell? ⟨b2,off2+t,none⟩=some (.int .i64 x) ∧ -1≤x∧x<(E.length:Int)):=Hd (fun y hy i hi=>by
  obtain⟨b,off,Ax,cx,e,hlt,-,c0,hp⟩:=h3 i hi;refine⟨b,off,Ax,cx,e,ltL hlt hy.size,(hy.cell (p:=⟨b,off+i,none⟩) hlt).trans c0,fun t ht=>?_⟩;obtain⟨x,hx⟩:∃x,(gotoRow g E i)[t]?=some x:=⟨_,eG (by simpa [gotoRow] using ht)⟩
  obtain⟨b2,off2,e2,hlt2,-,d0⟩:=hp.at_ hx;exact⟨b2,off2,x,e2,ltL hlt2 hy.size,(hy.cell (p:=⟨b2,off2+t,none⟩) hlt2).trans d0,hr.goto i hi x (mG hx)⟩)
 clear h h1 h2 h3 hf hr;generalize E.length=n at *;generalize g.R.length=nR at *;generalize g.nt=nt at *;generalize g.nn=nn at *;have HT:=Hd (Blk.new w 26 #[.slice Ar (nR+1) cr,.int .i64 nt,.int .i64 nn,.slice Aa n ca,.slice Ag n cg]);have HB0:=Hd (below_alloc w (.cells #[.slice Ar (nR+1) cr,.int .i64 nt,.int .i64 nn,.slice Aa n ca,.slice Ag n cg] 26));have HCT:Hid (∀y,Below (w.heap.size+1) (w.alloc (.cells #[.slice Ar (nR+1) cr,.int .i64 nt,.int .i64 nn,.slice Aa n ca,.slice Ag n cg] 26)) y→w.heap.size<y.heap.size∧y.cell? ⟨w.heap.size,0,none⟩=some (.slice Ar (nR+1) cr)∧y.cell? ⟨w.heap.size,1,none⟩=some (.int .i64 nt)∧y.cell? ⟨w.heap.size,2,none⟩=some (.int .i64 nn)∧y.cell? ⟨w.heap.size,3,none⟩=some (.slice Aa n ca)∧y.cell? ⟨w.heap.size,4,none⟩=some (.slice Ag n cg)∧Below w.heap.size w y):=Hd (fun y hy=>by
  have h:=HT.out.below hy (by omega);exact⟨h.lt,h.cell 0,h.cell 1,h.cell 2,h.cell 3,h.cell 4,HB0.out.trans (hy.mono (by omega))⟩)
 have q0:¬((nR:Int)+1=0):=by omega
 have q1:((n:Int)==0)=false:=by rw[bN];omega
 have q2:¬((nt:Int)<0):=by omega
 have q3:¬((nn:Int)<0):=by omega
 go_enter Tryz.func8,Tryz.ntmps8
 go_wp2_with fail
 have HS0:Hid ((w.alloc (.cells #[.slice Ar (nR+1) cr,.int .i64 nt,.int .i64 nn,.slice Aa n ca,.slice Ag n cg] 26)).heap.size=w.heap.size+1):=Hd (by simp);rw[←HS0.out]at HCT;generalize w.alloc (.cells #[.slice Ar (nR+1) cr,.int .i64 nt,.int .i64 nn,.slice Aa n ca,.slice Ag n cg] 26)=W0 at *;go_loopw [3] (fun ii wr=>∃k:Nat,k≤nR∧ii=.int .i64 k∧Hid (Below W0.heap.size W0 wr)) (fun ii _=>nR-(intOf ii).toNat)
 case atStart=>exact⟨0,zeL _,rfl,Hd (Below.refl _ _)⟩
 case round=>
  obtain⟨k,hk,rfl,HB⟩:=hrel;rename World=>w1
  obtain⟨tl,t0,t1,t2,t3,t4,hbw⟩:=HCT.out w1 HB.out;have HBW:=Hd hbw;by_cases hlt:k<nR
  ·obtain⟨b,off,l,rfl,hbl,c0,hl1,hl2⟩:=HR.out w1 hbw k hlt
   have hd1:decide ((l:Int)≤(nt:Int))=false:=decide_eq_false (by omega);have hd2:¬((nn:Int)<(l:Int)-(nt:Int)):=by omega
   have hw:IntKind.i64.wrap ((l:Int)-(nt:Int))=(l:Int)-(nt:Int):=by rw[IntKind.wrap_i64];omega
   have hd3:¬l≤nt:=by omega
   have hk1:(k:Int)<(nR:Int)+1:=by omega
   clear hbw;go_upto_region 6 with fail
   go_quiet (fail)
   go_wp2;go_roundw
   case rel=>exact⟨k+1,by omega,by go_num,Hd (HB.out.trans ⟨rfl,rfl,rfl,leR _,fun _ _=>rfl⟩)⟩
   case measure=>simp[intOf];omega
  ·obtain rfl:nR=k:=by omega
   clear hbw;go_wp2_with fail
   clear tl t0 t1 t2 t3 t4;go_loopw [4] (fun ii wr=>∃i:Nat,i≤n∧ii=.int .i64 i∧Hid (Below W0.heap.size W0 wr)) (fun ii _=>n-(intOf ii).toNat)
   case atStart=>exact⟨0,zeL _,rfl,HB⟩
   case round=>
    clear HB HBW;obtain⟨i,hi,rfl,HB⟩:=hrel;rename World=>w2
    obtain⟨tl,t0,t1,t2,t3,t4,hbw⟩:=HCT.out w2 HB.out;have HBW:=Hd hbw;by_cases hlt:i<n
    ·obtain⟨b,off,Ax,cx,rfl,hbl,c0,hx⟩:=HA.out w2 hbw i hlt
     obtain⟨b3,off3,Ax3,cx3,rfl,hbl3,c3,hx3⟩:=HG.out w2 hbw i hlt;have hi1:(i:Int)<(n:Int):=by omega
     have hd1:decide ((nt:Int)+1<1)=false:=decide_eq_false (by omega);have hd2:((nt:Int) != (nt:Int))=false:=by simp
     have hd3:((nn:Int) != (nn:Int))=false:=by simp
     clear hbw hx hx3;go_upto_region 11 with fail
     go_quiet (fail)
     rename Nat=>nq1
     go_wp2;have HBD:Hid (Below W0.heap.size W0 (w2.drewN nq1)):=Hd (HB.out.trans ⟨rfl,rfl,rfl,leR _,fun _ _=>rfl⟩);clear HB HBW tl t0 t1 t2 t3 t4 hbl c0 hbl3 c3 hd1 hd2 hd3;go_loopw [5] (fun ii wr=>∃t:Nat,t≤nt+1∧ii=.int .i64 t∧Hid (Below W0.heap.size W0 wr)) (fun ii _=>nt+1-(intOf ii).toNat)
     case atStart=>exact⟨0,zeL _,rfl,HBD⟩
     case round=>
      clear HBD;obtain⟨t,ht,rfl,HB⟩:=hrel;rename World=>w3
      obtain⟨tl,t0,t1,t2,t3,t4,hbw⟩:=HCT.out w3 HB.out;have HBW:=Hd hbw;obtain⟨b',off',Ax',cx',e1,hbl,c0,hx⟩:=HA.out w3 hbw i hlt;cases e1
      clear hbw;by_cases hlt2:t<nt+1
      ·obtain⟨b2,off2,x,rfl,hbl2,d0,d1,hok⟩:=hx t hlt2
       have ht1:(t:Int)<(nt:Int)+1:=by omega
       obtain⟨x1,x2⟩:=x;simp only at d0 d1;have HC:=Hd (fun y:World=>rAct_any (w:=y) (Ar:=Ar) (Aa:=some ⟨b,off,none⟩) (Ag:=some ⟨b3,off3,none⟩) (nt:=nt) (nn:=nn) (cr:=cr) (ca:=ca) (ng:=n) (cg:=cg) hok (by omega));have HS:Hid (∀y,Below w3.heap.size w3 y→y.cell? ⟨w.heap.size,0,none⟩=some (.slice Ar (nR+1) cr)∧y.cell? ⟨w.heap.size,1,none⟩=some (.int .i64 nt)∧y.cell? ⟨w.heap.size,2,none⟩=some (.int .i64 nn)∧y.cell? ⟨w.heap.size,3,none⟩=some (.slice (some ⟨b,off,none⟩) n ca)∧y.cell? ⟨w.heap.size,4,none⟩=some (.slice (some ⟨b3,off3,none⟩) n cg)∧y.cell? ⟨b,off+i,none⟩=some (.slice (some ⟨b2,off2,none⟩) (nt+1) cx')∧y.cell? ⟨b2,off2+t*2,none⟩=some (.int .i64 x1)∧y.cell? ⟨b2,off2+t*2+1,none⟩=some (.int .i64 x2)):=Hd (fun y hy=>
        ⟨(hy.cell (p:=⟨w.heap.size,0,none⟩) tl).trans t0,(hy.cell (p:=⟨w.heap.size,1,none⟩) tl).trans t1,(hy.cell (p:=⟨w.heap.size,2,none⟩) tl).trans t2,(hy.cell (p:=⟨w.heap.size,3,none⟩) tl).trans t3,(hy.cell (p:=⟨w.heap.size,4,none⟩) tl).trans t4,(hy.cell (p:=⟨b,off+i,none⟩) hbl).trans c0,(hy.cell (p:=⟨b2,off2+t*2,none⟩) hbl2).trans d0,(hy.cell (p:=⟨b2,off2+t*2+1,none⟩) hbl2).trans d1⟩)
       have HD0:Hid (Below w3.heap.size w3 w3.drew):=Hd ((Below.refl w3.heap.size w3).drew);clear hx hok;go_upto_region 16 with fail
       go_region_held3 (fun v=>v.cell? ⟨w.heap.size,0,none⟩=some (.slice Ar (nR+1) cr)∧v.cell? ⟨w.heap.size,1,none⟩=some (.int .i64 nt)∧v.cell? ⟨w.heap.size,2,none⟩=some (.int .i64 nn)∧v.cell? ⟨w.heap.size,3,none⟩=some (.slice (some ⟨b,off,none⟩) n ca)∧v.cell? ⟨w.heap.size,4,none⟩=some (.slice (some ⟨b3,off3,none⟩) n cg)∧v.cell? ⟨b,off+i,none⟩=some (.slice (some ⟨b2,off2,none⟩) (nt+1) cx')∧v.cell? ⟨b2,off2+t*2,none⟩=some (.int .i64 x1)∧v.cell? ⟨b2,off2+t*2+1,none⟩=some (.int .i64 x2))
        (first|exact HS.out _ HD0.out|exact HS.out _ HB4.out)
        (first|(
          go_at_call 30;refine(HC.out _).mono ?_;rintro e w4 ⟨rfl,hb4⟩
          have HB4:Hid (Below w3.heap.size w3 w4):=Hd (HD0.out.trans hb4);clear hb4))
       go_wp2;go_roundw
       case rel=>exact⟨t+1,by omega,by go_num,Hd (HB.out.trans (HB4.out.mono HB.out.size))⟩
       case measure=>simp[intOf];omega
      ·obtain rfl:t=nt+1:=by omega
       clear hx;go_wp2;clear HBW tl t0 t1 t2 t3 t4 hbl c0;go_loopw [6] (fun ii wr=>∃t:Nat,t≤nn∧ii=.int .i64 t∧Hid (Below W0.heap.size W0 wr)) (fun ii _=>nn-(intOf ii).toNat)
       case atStart=>exact⟨0,zeL _,rfl,HB⟩
       case round=>
        clear HB;obtain⟨t,ht,rfl,HB⟩:=hrel;rename World=>w5
        obtain⟨tl,t0,t1,t2,t3,t4,hbw⟩:=HCT.out w5 HB.out;obtain⟨b',off',Ax3',cx3',e1,hbl,c0,hx⟩:=HG.out w5 hbw i hlt;cases e1
        clear hbw;by_cases hlt3:t<nn
        ·obtain⟨b2,off2,x,rfl,hbl2,d0,hx1,hx2⟩:=hx t hlt3
         have ht1:(t:Int)<(nn:Int):=by omega
         have hd1:decide (x < -1)=false:=decide_eq_false (by omega);have hd2:¬((n:Int)≤x):=by omega
         clear hx;go_upto_region 21 with fail
         go_quiet (fail)
         go_wp2;go_roundw
         case rel=>exact⟨t+1,by omega,by go_num,Hd (HB.out.trans ⟨rfl,rfl,rfl,leR _,fun _ _=>rfl⟩)⟩
         case measure=>simp[intOf];omega
        ·obtain rfl:t=nn:=by omega
         clear hx;go_wp2;go_roundw
         case rel=>exact⟨i+1,by omega,by go_num,HB⟩
         case measure=>simp[intOf];omega
    ·obtain rfl:i=n:=by omega
     clear hbw;go_wp2;go_ret;exact⟨rfl,HBW.out⟩
end Go.Proofs.YthaacmablcpdfaaGreatDoor
namespace Go.Proofs.YthaacmablcpdfaaGreatDoor
open Go.RowKit
set_option linter.unusedVariables false
set_option maxRecDepth 1000000
theorem pz_calm0:((List.range pzE.length).all fun i=>(List.range (pz.nt+1)).all fun t=>decide ((pz.actsK (pzE.getD i []) (pzK.getD i []) t).length≤1))=true:=by decide +kernel
theorem pz_calm:Calm pz pzE pzK:=fun i t hi ht=>by have h:=List.all_eq_true.1 (List.all_eq_true.1 pz_calm0 i (List.mem_range.2 hi)) t (List.mem_range.2 (by omega));exact of_decide_eq_true h
theorem pz_acts_ok:((List.range pzE.length).all fun i=>(actRow pz pzE pzK i).all fun x=>decide (actOk pzE.length pz.R.length x))=true:=by decide +kernel
theorem pz_goto_ok:((List.range pzE.length).all fun i=>(gotoRow pz pzE i).all fun x=>decide (-1≤x)&&decide (x<(pzE.length:Int)))=true:=by decide +kernel
theorem pz_right:RightP pz pzE pzK where
 some_:=by decide +kernel
 few:=by decide +kernel
 acts:=fun i hi x hx=>by have h:=List.all_eq_true.1 (List.all_eq_true.1 pz_acts_ok i (List.mem_range.2 hi)) x hx;exact of_decide_eq_true h
 goto:=fun i hi x hx=>by have h:=List.all_eq_true.1 (List.all_eq_true.1 pz_goto_ok i (List.mem_range.2 hi)) x hx;simp only[Bool.and_eq_true,decide_eq_true_eq]at h;exact h
theorem posix_z:(match parseL posixT with | .ok g=>g.T.length==pz.nt&&g.N.length==pz.nn&&g.s==pz.s&&g.R==pz.R | .error _=>false)=true:=by decide +kernel
theorem gram_pz{g:PG}(h:parseL posixT=.ok g):g.T.length=pz.nt∧g.N.length=pz.nn∧g.s=pz.s∧g.R=pz.R:=by have h1:=posix_z;rw[h]at h1;simp only[Bool.and_eq_true,beq_iff_eq]at h1;exact⟨h1.1.1.1,h1.1.1.2,h1.1.2,h1.2⟩
theorem has_gn{w0 w:World}{tv nv Rv:Value}{g:PG}{R:List RuG}(h:Has w0 w tv nv Rv g R)(hg:parseL posixT=.ok g):GN w (.agg #[tv,nv,Rv,.int .i64 g.s]) pz:=by have hgood:=parse_good hg;have hlike:=like_has h;refine⟨Gm.ofP g (R.map RuG.ru),Has.gram h hgood,(check_ofP hgood hlike).1,?_⟩;obtain⟨h1,h2,h3,h4⟩:=gram_pz hg;unfold Gz.ofG Gm.ofP;simp only[lM];have h5:=hlike.1;rw[h5,h4,h1,h2,h3];rfl
def GramZ(w:World)(e:Ending)(w':World):Prop:=∃v,e=.returned v∧GN w' v pz∧Below w.heap.size w w'
theorem pGramZ_any{w:World}(hm:HasMax w):Calls Tryz.prog 7 #[] w (GramZ w):=by refine(pGram_any hm).mono ?_;rintro e w1 ⟨hb1,tv,nv,Rv,R,g,hg,hB,rfl,hhas⟩;exact⟨_,rfl,has_gn hhas hg,hb1⟩
theorem pMade_any{w:World}{v:Value}(hg:GN w v pz):Calls Tryz.prog 24 #[v] w (MadeEnd w pz pzL pzE pzK):=by refine(makes_any hg pz_auto pz_lkIn).mono ?_;rintro e w' ⟨mv,rfl,h1,h2⟩;rw[pz_looks]at h1;exact⟨mv,rfl,h1,h2⟩
theorem pTbl_any{w:World}{v:Value}(hg:GN w v pz):Calls Tryz.prog 6 #[v] w (TblEnd w pz pzE pzK):=tblOf_any hg pz_sz pz_calm (fun y hy=>pMade_any (hg.later hy))
end Go.Proofs.YthaacmablcpdfaaGreatDoor
namespace Go.Proofs.YthaacmablcpdfaaGreatDoor
open Go.RowKit
set_option linter.unusedVariables false
set_option maxRecDepth 100000
theorem TblA.later_{w w':World}{v:Value}{g:Gz}{E:List (List It)}{K:List (List (Nat×Nat))}(h:TblA (fun b=>b<w.heap.size) w v g E K)(hb:Below w.heap.size w w'):TblA (fun b=>b<w'.heap.size) w' v g E K:=
 (h.chg (X:=fun b=>w.heap.size≤b) (Chg.of_below hb) (fun b hb hx=>by omega)).mono (fun b hb2=>ltL hb2 hb.size)
set_option maxHeartbeats 3200000 in
theorem right_law0{w:World}(hm:HasMax w)(hT:HasTabs w):Calls Tryz.prog 3 #[] w (fun e w'=>e=.returned (.bool true)∧Below w.heap.size w w'):=by
 have HA:=Hd (fun y (hy:Below w.heap.size w y)=>awake_any (hm.later hy) (hT.later hy));have HP:=Hd (pGramZ_any hm);clear hm hT;go_enter Tryz.func3,Tryz.ntmps3
 go_wp2_with (first
  | (
   go_at_call 7;refine HP.out.mono ?_;rintro e w1 ⟨v,rfl,hg,hb1⟩
   have HO:=Hd (pTbl_any hg);have HF:=Hd hg.fit;have HB1:=Hd hb1;obtain⟨AT,cT,AN,cN,AR,cR,rfl,-,-⟩:=hg.open_;clear hg hb1)
  | (
   go_at_call 6;refine HO.out.mono ?_;rintro e w2 ⟨tv,rfl,ht,hb2⟩
   have HR:=Hd (rRight_any (ht.later_ (below_alloc w2 (.cells tv.cells 26))) HF.out pz_right);obtain⟨Ar,cr,Aa,ca,Ag,cg,rfl,-,-,-⟩:=ht.open_;have HB2:Hid (Below w.heap.size w w2):=Hd (HB1.out.trans (hb2.mono HB1.out.size));clear ht hb2)
  | (
   go_at_call 8;refine HR.out.mono ?_;rintro e w3 ⟨rfl,hb3⟩
   have HB3:Hid (Below w.heap.size w w3):=Hd (HB2.out.trans (((below_alloc w2 _).trans (hb3.mono (by simp))).mono HB2.out.size));have HA3:=Hd (HA.out w3 HB3.out);clear hb3)
  | (
   go_at_call 9;refine HA3.out.mono ?_;rintro e w4 ⟨rfl,hb4⟩
   have HB4:Hid (Below w.heap.size w w4):=Hd (HB3.out.trans (hb4.mono HB3.out.size));clear hb4))
 go_ret;exact⟨rfl,HB4.out⟩
end Go.Proofs.YthaacmablcpdfaaGreatDoor
