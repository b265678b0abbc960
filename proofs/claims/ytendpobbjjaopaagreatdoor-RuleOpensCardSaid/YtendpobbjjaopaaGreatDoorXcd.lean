/- . -/
import Derived.Test.YtendpobbjjaopaaGreatDoorXcc
set_option linter.all false
set_option maxRecDepth 100000
set_option maxHeartbeats 16000000
namespace Go.Proofs.YtendpobbjjaopaaGreatDoor
open Go.RowKit
open Value renaming slice→oG,int→oH,string→oJ
open Option renaming some→oM,none→oN
open IntKind renaming i64→oO
open Obj renaming cells→oP
open Go renaming World→oU,Value→oV
variable{w:oU}{v:oV}
section
variable {w0 w:oU} {N g:Nat} {x:TM}
def nE{b c n i k o:Nat}{l w4:oU}{v0 v1 v2 v3 v4:oV}(t:AK w0 N g l x)(T:x.lv=oG (oM ⟨b,0,oN⟩) (x.lower.length+1) c)(U:i≠b)(hp:(∃j:Array oV,Ah l i 53 j)/\w0.heap.size<=i)
  (R:Sl w0.heap.size N l 53 5 (oG (oM ⟨i,0,oN⟩) n k))
  (hw:w4=(Er l i o v0 v1 v2 v3 v4).setCell ⟨b,x.lower.length*5+1,oN⟩ (oG (oM ⟨i,0,oN⟩) n k) \/
   w4=Er (l.setCell ⟨b,x.lower.length*5+1,oN⟩ (oG (oM ⟨i,0,oN⟩) n k)) i o v0 v1 v2 v3 v4):AK w0 N g w4 {x with top:={x.top with parts:=oG (oM ⟨i,0,oN⟩) n k}}:=by
 have P:∀p,AK w0 N g p x->Sl w0.heap.size N p 53 5 (oG (oM ⟨i,0,oN⟩) n k)->AK w0 N g (p.setCell ⟨b,x.lower.length*5+1,oN⟩ (oG (oM ⟨i,0,oN⟩) n k)) {x with top:={x.top with parts:=oG (oM ⟨i,0,oN⟩) n k}}:=fun p J hs=>J.M5 T 1 nX _ _ rfl rfl ⟨hs,(J.EU _ (IN _)).2⟩
 obtain⟨⟨j,C⟩,I⟩:=hp;rcases hw with rfl|rfl
 ·exact P _ (AK.Er ⟨⟨j,C⟩,I,t⟩).2 (R.up (AK.Er ⟨⟨j,C⟩,I,t⟩).1 (.inr rfl) (Ay _))
 ·exact(AK.Er ⟨⟨j,C.Bz (p:=⟨b,_,oN⟩) U _⟩,I,P _ t R⟩).2
def Sl.lt{B N size:Nat}{e:TypeId}(h:Sl B N w e size v):∀k,v.ownBlock=oM k->k<w.heap.size:=by
 obtain⟨A,n,c,rfl,_,h⟩:=h;intro k i;rcases h with⟨rfl,_⟩|⟨b,l,rfl,_,j,_⟩
 ·cases i
 ·simp only[Value.ownBlock,Option.some.injEq]at i
  exact i▸j.lt
def Sl.Bb{B N size b:Nat}{e t:TypeId}{i:Array oV}(h:Sl B N w e size v)(o:Ah w b t i)(p:e≠t):v.ownBlock≠oM b:=by
 obtain⟨A,n,c,rfl,_,h⟩:=h;intro j;rcases h with⟨rfl,_⟩|⟨k,i,rfl,_,l,_⟩
 ·cases j
 ·exact l.Bb o p (by simpa [Value.ownBlock] using j)
def IT(h:AK w0 N g w x)(hN:N<=900000)(T:Int)(pt U:ByteArray)(I:Option Addr)(P J:Nat)(o:Option Addr)(C p:Nat) :
  Calls Tryz.prog 118 #[.pointer (oM ⟨g,0,oN⟩),.agg #[oH oO T,oJ pt,oJ U,oG I P J,oG o C p]] w fun e w'=>e=.returned (.tuple #[])/\∃t,AK w0 (N+2) g w' {x with top:=t}:=by
 obtain⟨b,c,a6,b1,b2,b5,b0,-,-⟩:=h.lvl;have ab:Below w.heap.size w (w.alloc (oP #[oH oO T,oJ pt,oJ U,oG I P J,oG o C p] 53)):=(Below.refl _ w).alloc (Ay _) _;have hA:=h.below ab;have ae:Ah (w.alloc (oP #[oH oO T,oJ pt,oJ U,oG I P J,oG o C p] 53)) w.heap.size 53 #[oH oO T,oJ pt,oJ U,oG I P J,oG o C p]:=Ah.new _ _ _;have a8:x.top.parts.ownBlock≠oM w.heap.size:=fun e=>by have:=(h.EU _ (IN x)).1.lt _ e;omega
 have HT:=Hd (KJ hA a6 nX);have a0:=Hd a6;have HA:=Hd hA;have a9:=Hd ae;clear h a6 hA ae ab;go_enter Tryz.func118,Tryz.ntmps118
 go_wp2_with fail
 refine HT.out.mono ?_;rintro e w1 ⟨rfl,m,rfl⟩;have h1:=HA.out.below (Ki _ m);have a4:=a9.out.drewN m;generalize (w.alloc (oP #[oH oO T,oJ pt,oJ U,oG I P J,oG o C p] 53)).drewN m=w1 at *;have aa:=Hd h1;have a3:=Hd a4;clear h1 a4 HA a9 HT;go_wp2_with fail
 refine(OE aa.out a0.out nX).mono ?_;rintro e i ⟨rfl,t,R,ag,aj⟩;have l:Ah i w.heap.size 53 #[oH oO T,oJ pt,oJ U,oG I P J,oG o C p]:=(ag _ a3.out.lt nX a8).trans a3.out;have a7:t.parts.ownBlock≠oM w.heap.size:=fun e=>by
  rcases aj with h|⟨k,h,hk⟩
  ·exact a8 (h▸e)
  ·have:=a3.out.lt
   rw[h]at e;cases e
   omega
 have hP:=(R.EU _ (IN _)).1;obtain⟨PA,j,Pc,a1,az,-⟩:=id hP;have d0:=(R.ES a0.out 1 nX).1;have df:=(R.ES a0.out 1 nX).2;simp only[TL.cells,List.getElem?_cons_zero,List.getElem?_cons_succ]at d0;simp only at a1;rw[a1]at d0 a7;have av:(Value.slice PA j Pc).ownBlock≠oM b:=by
  obtain⟨b',c',h1,_,_,_,_,⟨ax,ao⟩,_⟩:=R.lvl;have h3:=a0.out.symm.trans h1;cases h3
  exact a1▸hP.Bb ao nY
 have d1:=l.cell 0;have d2:=l.cell 1;have d3:=l.cell 2;have d4:=l.cell 3;have d5:=l.cell 4;simp only[List.getElem?_toArray,List.getElem?_cons_zero,List.getElem?_cons_succ]at d1 d2 d3 d4 d5;have bb:=l.lt;simp only at hP;rw[a1]at hP;have ay:=R.le;have b3:b<i.heap.size:=World.block_lt_of_cell? i _ d0;have b6:(0:Int)<=(j:Int):=by omega
 have b7:(j:Int)<((j+1:Nat):Int):=by omega
 have b8:(j:Int)<(j:Int)+1:=by omega
 have a4:¬b=w.heap.size:=by omega
 have b4:¬w.heap.size=b:=by omega
 have al:=Hd R;have HP:=Hd hP;have an:=Hd a1;have ak:=Hd l;clear R hP a1 l ag aj aa a8;go_wp2_with fail
 go_region_law (first
  | (
    refine TD (P:=Tryz.prog) (t:=50) (e:=53) (size:=5) (bytes:=88) (B:=w0.heap.size) (n:=j) (c:=Pc) (m:=1) (A:=PA) (src:=oG (oM ⟨i.heap.size,0,oN⟩) 1 1) ?_ (.tmp 12) (.tmp 15) ?_ ?_ ?_ ?_ ?_
    ·refine Q1 (w:=i) HP.out ?_ ?_ nX nX
     ·first|exact((Below.refl _ i).alloc (Ay _) _).drew|exact(Below.refl _ i).drew.alloc (Ay _) _|exact(Below.refl _ i).alloc (Ay _) _
     ·first|exact Ah.new i 53 _|exact Ah.new i.drew 53 _
    ·rfl
    ·rfl
    ·rfl
    ·rfl
    intro A k3 w3 r1 r2 r3 r4;obtain⟨nb,rfl,aq,au,qf,q⟩:=TB r1;obtain⟨u0,q0⟩:=q 0 nX;obtain⟨u1,q1⟩:=q 1 nX;obtain⟨u2,q2⟩:=q 2 nX;obtain⟨u3,q3⟩:=q 3 nX;obtain⟨u4,q4⟩:=q 4 nX;simp only[Nat.add_zero]at q0;have bc:=qf (j*5);have bd:=qf (j*5+1);have be:=qf (j*5+2);have bf:=qf (j*5+3);have bh:=qf (j*5+4);have ad:Below i.heap.size i (i.alloc (oP Ie.toArray 53)):=(Below.refl _ i).alloc (Ay _) _;have a5:(i.alloc (oP Ie.toArray 53)).grownBy w3 (Value.slice PA j Pc).ownBlock:=⟨r3.os,r3.tape,r3.output,r3.size,r3.block⟩
    have h3:=(al.out.below ad).app (M:=N+2) (.inr rfl) (HP.out.up (.below ad) (.inr rfl) (Ay _)) (fun b c e he hb f=>r2 b c e he hb f) a5 nX;have hk:=h3.ES a0.out 1 nX;simp only[TL.cells,List.getElem?_cons_zero,List.getElem?_cons_succ,an.out]at hk;obtain⟨k0,kf⟩:=hk;have a2:=(ak.out.alloc (oP Ie.toArray 53)).grown a5 (Ne.symm a7);have k1:=a2.cell 0;have k2:=a2.cell 1;have aw:=a2.cell 2;have k4:=a2.cell 3;have k5:=a2.cell 4;simp only[List.getElem?_toArray,List.getElem?_cons_zero,List.getElem?_cons_succ]at k1 k2 aw k4 k5;have ah:(Value.slice PA j Pc).ownBlock=oM nb\/nb=i.heap.size+1:=by
     rcases r4 with r4|r4
     ·exact .inl r4.symm
     ·simp only[Option.some.injEq,Addr.mk.injEq]at r4
      exact .inr (by simpa using r4.1)
    have ai:¬nb=b:=by
     rintro rfl;rcases ah with h|h
     ·exact av h
     ·omega
    have b9:¬b=nb:=fun e=>ai e.symm
    have ar:¬nb=w.heap.size:=by
     rintro rfl;rcases ah with h|h
     ·exact a7 h
     ·omega
    have ba:¬w.heap.size=nb:=fun e=>ar e.symm
    have af:=fun(w4:oU)=>nE (o:=j*5) (v0:=oH oO T) (v1:=oJ pt) (v2:=oJ U) (v3:=oG I P J) (v4:=oG o C p) (w4:=w4) h3 a0.out ai ⟨au,aq⟩ (r1.mono nX)
    have HF:=Hd af;clear r1 r2 r3 r4 q qf a5 h3 af a2))
 all_goals go_wp2
 all_goals go_end0
 all_goals refine⟨rfl,?_⟩
 all_goals first
  | (refine⟨_,HF.out _ (.inl ?_)⟩;unfold Er;with_reducible rfl)
  | (refine⟨_,HF.out _ (.inr ?_)⟩;unfold Er;with_reducible rfl)
end
def Tryz.ly:(Tryz.prog.info? 188).map (fun i=>(i.zero,i.size,i.bytes))=oM (oM (.agg #[oH oO 0,oG oN 0 0,oG oN 0 0,oJ ⟨#[]⟩,oJ ⟨#[]⟩]),5,88):=by kernel_rfl
def kQ:El Tryz.prog 68 188 5 88:=El.of Tryz.underlying68 Tryz.ly rfl nY
section
variable {w0 w w1:oU} {N g:Nat} {x:TM}
def AK.Uk(h:AK w0 N g w x){lower:List TL}{top:TL}{b c M:Nat}(a1:x.lv=oG (oM ⟨b,0,oN⟩) (x.lower.length+1) c)(t:w.grownBy w1 (oM b))
  (P:w1.ownsRow w0.heap.size 188 5 v (lower++[top]).length ((lower++[top]).flatMap TL.cells)) (hn:lower.length<=M) (i:N<=M)
  (hs:∀l∈lower++[top],l∈x.levels\/(l.parts=oG oN 0 0/\l.lit=oG oN 0 0)) (hz:(lower++[top]).head?=x.levels.head?) :
  AK w0 M g (w1.setCell ⟨g,0,oN⟩ v) {x with lower:=lower,top:=top,lv:=v}:=by
 obtain⟨b',c',I,U,a3,_,T,⟨a2,a0⟩,_⟩:=h.lvl;rw[a1]at I;cases I
 have p:=h.Aj.grown t (fun e=>U (Option.some.inj e).symm);have C:=IV w1 g 0 v;have j:Up w (w1.setCell ⟨g,0,oN⟩ v):=Up.trans (.row t fun b e=>by cases e;exact⟨_,_,a0,nY,nY⟩) (.row C fun b e=>by cases e;exact⟨_,_,p,nY,nY⟩);have J:=JT h.frame h.le t (fun b e=>by cases e;exact T);refine⟨?_,h.base,JT J J.size C (fun b e=>by cases e;exact h.base),P.kept C (.inr (Du P p nY)),hn,h.took.up j (.inl rfl) i,h.plain.up j (.inl rfl) i,h.buf.up j (.inl rfl) i,fun l hm=>?_,?_⟩
 ·have:=p.Ba 0 v
  simpa [TM.cells] using this
 ·rcases hs l hm with o|⟨o,R⟩
  ·exact⟨(h.EU l o).1.up j (.inr rfl) i,(h.EU l o).2.up j (.inl rfl) i⟩
  ·rw[o,R]
   exact⟨Sl.nil,Sl.nil⟩
 ·show (lower++[top]).head?.map TL.place=oM 0
  rw[hz];exact h.zero
def AK.pop(h:AK w0 N g w x){i:List TL}{t:TL}(j:x.lower=i++[t]){b c:Nat}(p:x.lv=oG (oM ⟨b,0,oN⟩) (x.lower.length+1) c) :
  AK w0 N g (w.setCell ⟨g,0,oN⟩ (oG (oM ⟨b,0,oN⟩) x.lower.length c)) {x with lower:=i,top:=t,lv:=oG (oM ⟨b,0,oN⟩) x.lower.length c}:=by
 have U:x.lower.length=i.length+1:=by rw[j];simp
 obtain⟨R,T,o,_,_,_,_,_,P⟩:=h.lvl;rw[p]at o;cases o
 have hn:=h.n;refine h.Uk p (World.grownBy.refl w _) ?_ nX (Ay _) (fun a0 J=>.inl ?_) ?_
 ·have l:=Vd P (k:=x.lower.length) nX
  rw[Q0 TL.cells 5 TL.len]at l;have C:x.levels.take x.lower.length=i++[t]:=by rw[TM.levels,List.take_append_of_le_length (Ay _),Da (Ay _),j]
  rw[C]at l;have I:(i++[t]).length=x.lower.length:=by rw[<-j]
  rw[I];exact l
 ·rw[TM.levels,j]
  exact List.mem_append_left _ J
 ·rw[TM.levels,j]
  cases i<;>simp
def Ye{W o:oU}{row:Option Nat}(i:Below w.heap.size w W)(j:W.grownBy o row):w.grownBy o row:=
 ⟨j.os.trans i.os,j.tape.trans i.tape,j.output.trans i.output,AW i.size j.size,fun k l p=>(j.block k (A0 l i.size) p).trans (i.block k l)⟩
def Pb(w:oU)(o:Obj)(t:TypeId)(cs:Array oV):Ah ((w.alloc o).alloc (oP cs t)) (w.heap.size+1) t cs:=by
 have h:=Ah.new (w.alloc o) t cs;have e:(w.alloc o).heap.size=w.heap.size+1:=by simp
 rwa [e]at h
def Ud(h:AK w0 N g w x)(hN:N<=900000)(l:Nat)(j op:ByteArray) :
  Calls Tryz.prog 115 #[.pointer (oM ⟨g,0,oN⟩),.agg #[oH oO l,oG oN 0 0,oG oN 0 0,oJ j,oJ op]] w fun e w'=>e=.returned (oH oO 0)/\∃U,AK w0 (N+1) g w' U/\U.kind=0:=by
 obtain⟨b,c,C,a2,a5,a6,-,-,R⟩:=h.lvl;have I:=h.Aj.cell 0;have gf:=h.Aj.frozen 0;simp only[TM.cells,List.getElem?_toArray,List.getElem?_cons_zero,C]at I;have a3:=h.Aj.lt;have a4:=h.le;have hn:=h.n;have a7:¬g=w.heap.size:=by omega
 have a8:¬w.heap.size=g:=by omega
 have H0:=Hd h;have a0:=Hd C;have a1:=Hd R;clear h C R;go_enter Tryz.func115,Tryz.ntmps115
 go_wp2_with fail
 go_region_law (first
  | (
   refine ER kQ (.tmp 9) (.tmp 11) ?_ ?_ (base:=w0.heap.size) (n:=x.lower.length+1) (m:=1) (N:=x.lower.length+2) (v:=oG (oM ⟨b,0,oN⟩) (x.lower.length+1) c) (src:=oG (oM ⟨w.heap.size+1,0,oN⟩) 1 1) (xs:=x.levels.flatMap TL.cells) (news:=[oH oO l,oG oN 0 0,oG oN 0 0,oJ j,oJ op]) ?_ ?_ ?_ ?_ ?_ ?_ ?_ ?_ ?_
   ·rfl
   ·rfl
   ·rfl
   ·rfl
   ·exact((a1.out.alloc _).alloc _)
   ·exact Be.Aj (c:=1) (Pb w _ 188 _).drew rfl oE
   ·rfl
   ·unfold maxLen;omega
   ·omega
   ·simp;omega
   intro A k3 w3 T r2 o;have t:=Ye (W:=(w.alloc (oP #[oH oO l,oG oN 0 0,oG oN 0 0,oJ j,oJ op] 188)).alloc (oP #[oH oO l,oG oN 0 0,oG oN 0 0,oJ j,oJ op] 188)) (((Below.refl _ w).alloc (Ay _) _).alloc oA _) ⟨o.1.os,o.1.tape,o.1.output,o.1.size,o.1.block⟩;have p:w3.heap[g]?=w.heap[g]?:=t.block g a3 (fun e=>a2 (by cases e;rfl));have k0:=(World.cell?_of_block (w:=w) (a:=⟨g,0,oN⟩) p).trans I;have kf:=(World.frozen?_of_block (w:=w) (a:=⟨g,0,oN⟩) p).trans gf;have P:=H0.out.Uk (lower:=x.levels) (top:=⟨l,oG oN 0 0,oG oN 0 0,j,op⟩) (M:=N+1) (v:=oG A (x.lower.length+2) k3) a0.out t (by
    rw[show (x.levels++[(⟨l,oG oN 0 0,oG oN 0 0,j,op⟩:TL)]).length=x.lower.length+2 by simp[TM.levels],List.flatMap_append,List.flatMap_singleton];exact T) (by simp[TM.levels];omega) nX (fun a9 i=>by
    rcases mA.1 i with i|i
    ·exact .inl i
    ·simp only[mS]at i
     exact .inr (by rw[i];exact⟨rfl,rfl⟩)) (by simp[TM.levels])
   have HF:=Hd P;clear T r2 o t P p))
 all_goals go_wp2_with fail
 all_goals refine(Dd HF.out 0 nX).mono ?_
 all_goals rintro e w' ⟨rfl,J⟩
 all_goals have H1:=Hd J
 all_goals clear J
 all_goals go_wp2
 all_goals go_ret
 all_goals exact⟨rfl,_,H1.out,rfl⟩
end
