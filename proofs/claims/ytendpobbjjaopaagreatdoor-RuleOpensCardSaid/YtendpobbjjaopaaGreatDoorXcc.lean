/- . -/
import Derived.Test.YtendpobbjjaopaaGreatDoorXcb
set_option linter.all false
set_option maxRecDepth 100000
set_option maxHeartbeats 16000000
namespace Go.Proofs.YtendpobbjjaopaaGreatDoor
open Go.RowKit
open Value renaming slice→oG,string→oJ
open Option renaming some→oM,none→oN
open Obj renaming cells→oP
open Go renaming World→oU
section
variable {w0 w:oU} {N g:Nat} {x:TM}
def VD(w0:oU)(N g:Nat)(w:oU)(x:TM)(b:Nat)(w':oU):Prop:=∃t,AK w0 (N+1) g w' {x with top:=t} /\
 (∀k,k<w.heap.size->k≠b->x.top.parts.ownBlock≠oM k->w'.heap[k]?=w.heap[k]?)/\(t.parts.ownBlock=x.top.parts.ownBlock\/∃k,t.parts.ownBlock=oM k/\w.heap.size<=k)
def fL(h:AK w0 N g w x){b c n i k o:Nat}{W t:oU}{v0 v1 v2 v3 v4:Value}(a3:x.lv=oG (oM ⟨b,0,oN⟩) (x.lower.length+1) c)(hb:Below w.heap.size w W)(a7:i≠b)(R:AK w0 (N+1) g t x)(hp:(∃J:Array Value,Ah t i 53 J)/\w0.heap.size<=i)
  (r1:Sl w0.heap.size (N+1) t 53 5 (oG (oM ⟨i,0,oN⟩) n k)) (r3:W.grownBy t x.top.parts.ownBlock) (P:x.top.parts.ownBlock=oM i\/w.heap.size<=i) {w4:oU}
  (hw:w4=((Er t i o v0 v1 v2 v3 v4).setCell ⟨b,x.lower.length*5+1,oN⟩ (oG (oM ⟨i,0,oN⟩) n k)).setCell ⟨b,x.lower.length*5+2,oN⟩ (oG oN 0 0) \/
   w4=(Er (t.setCell ⟨b,x.lower.length*5+1,oN⟩ (oG (oM ⟨i,0,oN⟩) n k)) i o v0 v1 v2 v3 v4).setCell ⟨b,x.lower.length*5+2,oN⟩ (oG oN 0 0)):VD w0 N g w x b w4:=by
 have a2:∀k,k<w.heap.size->k≠b->x.top.parts.ownBlock≠oM k->k≠i/\t.heap[k]?=w.heap[k]?:=fun k C l I=>by
  refine⟨fun e=>?_,(r3.block k (A0 C hb.size) (Ne.symm I)).trans (hb.block k C)⟩;subst e;rcases P with P|P
  ·exact I P
  ·omega
 have a1:∀p,AK w0 (N+1) g p {x with top:={x.top with parts:=oG (oM ⟨i,0,oN⟩) n k}}->AK w0 (N+1) g (p.setCell ⟨b,x.lower.length*5+2,oN⟩ (oG oN 0 0)) {x with top:={x.top with parts:=oG (oM ⟨i,0,oN⟩) n k,lit:=oG oN 0 0}}:=fun p j=>j.M5 a3 2 nX _ _ rfl rfl ⟨(j.EU _ (IN _)).1,Sl.nil⟩
 have a4:(Value.slice (oM ⟨i,0,oN⟩) n k).ownBlock=x.top.parts.ownBlock\/∃a6,(Value.slice (oM ⟨i,0,oN⟩) n k).ownBlock=oM a6/\w.heap.size<=a6:=P.imp (fun e=>e.symm) fun e=>⟨i,rfl,e⟩
 have a5:∀p,AK w0 (N+1) g p x->Sl w0.heap.size (N+1) p 53 5 (oG (oM ⟨i,0,oN⟩) n k)->AK w0 (N+1) g (p.setCell ⟨b,x.lower.length*5+1,oN⟩ (oG (oM ⟨i,0,oN⟩) n k)) {x with top:={x.top with parts:=oG (oM ⟨i,0,oN⟩) n k}}:=fun p j hs=>j.M5 a3 1 nX _ _ rfl rfl ⟨hs,(j.EU _ (IN _)).2⟩
 obtain⟨⟨J,U⟩,a0⟩:=hp;rcases hw with rfl|rfl
 ·refine⟨_,a1 _ (a5 _ (AK.Er ⟨⟨J,U⟩,a0,R⟩).2 ?_),fun k C l I=>?_,a4⟩
  ·exact r1.up (AK.Er ⟨⟨J,U⟩,a0,R⟩).1 (.inr rfl) (Ay _)
  ·obtain⟨j,T⟩:=a2 k C l I
   rw[Below.heap_setCell _ _ _ _ l,Below.heap_setCell _ _ _ _ l,Ve _ _ j,T]
 ·refine⟨_,a1 _ (AK.Er ⟨⟨J,U.Bz (p:=⟨b,_,oN⟩) a7 _⟩,a0,a5 _ R r1⟩).2,fun k C l I=>?_,a4⟩
  obtain⟨j,T⟩:=a2 k C l I;rw[Below.heap_setCell _ _ _ _ l,Ve _ _ j,Below.heap_setCell _ _ _ _ l,T]
def OE(h:AK w0 N g w x){b c:Nat}(j:x.lv=oG (oM ⟨b,0,oN⟩) (x.lower.length+1) c)(hN:N<=1000000) :
  Calls Tryz.prog 112 #[.pointer (oM ⟨b,x.lower.length*5,oN⟩)] w fun e w'=>e=.returned (.tuple #[])/\VD w0 N g w x b w':=by
 obtain⟨o,I⟩:=h.EU _ (IN x);obtain⟨T,i,U,J,an,-⟩:=id o;obtain⟨LA,Ln,Lc,a0,al,-⟩:=id I;have d0:=(h.ES j 1 nX).1;have df:=(h.ES j 1 nX).2;have l0:=(h.ES j 2 nX).1;have lf:=(h.ES j 2 nX).2;simp only[TL.cells,List.getElem?_cons_zero,List.getElem?_cons_succ,J,a0]at d0 l0;rw[J]at o;rw[a0]at I;obtain⟨b',c',h1,aq,ar,_,ao,⟨ah,a3⟩,_⟩:=h.lvl;rw[j]at h1;cases h1
 have af:(Value.slice T i U).ownBlock≠oM b:=by
  obtain⟨_,_,_,h1,_,h2⟩:=o;cases h1
  rcases h2 with⟨rfl,_⟩|⟨k,ai,rfl,_,hk,_⟩
  ·simp[Value.ownBlock]
  ·intro e
   exact hk.Bb a3 nY (by simpa [Value.ownBlock] using e)
 have ak:=h.le;have au:(0:Int)<=(i:Int):=by omega
 have av:(i:Int)<((i+1:Nat):Int):=by omega
 have aw:(i:Int)<(i:Int)+1:=by omega
 by_cases ag:Ln=0
 ·subst ag
  have P:=Hd h;clear h o I J a0 j a3;go_enter Tryz.func112,Tryz.ntmps112
  go_wp2
  go_end0
  exact⟨rfl,x.top,P.out.mono nX,fun _ _ _ _=>rfl,.inl rfl⟩
 ·have ay:decide ((0:Int)<(Ln:Int))=true:=by simp;omega
  obtain⟨s,-,a1⟩:=LL (P:=Tryz.prog) Tryz.underlying69 Tryz.underlying5 Tryz.underlying9 I;have aj:=a1 w.drew (Below.refl _ w).drew;have a9:=a1 (w.alloc (oP Ie.toArray 53)).drew ((Below.refl _ w).alloc (Ay _) _).drew;have aa:=a1 (w.drew.alloc (oP Ie.toArray 53)) ((Below.refl _ w).drew.alloc (Ay _) _);have P:=Hd h;have HP:=Hd o;have R:=Hd J;have a2:=Hd j;clear h o I J a0 j a3 a1;simp only[Ie]at a9 aa;go_enter Tryz.func112,Tryz.ntmps112
  go_wp2_with fail
  go_region_law (first
   | (
    refine TD (P:=Tryz.prog) (t:=50) (e:=53) (size:=5) (bytes:=88) (B:=w0.heap.size) (n:=i) (c:=U) (m:=1) (A:=T) (src:=oG (oM ⟨w.heap.size,0,oN⟩) 1 1) ?_ (.tmp 11) (.tmp 19) ?_ ?_ ?_ ?_ ?_
    ·refine Q1 (w:=w) HP.out ?_ ?_ nX nX
     ·first|exact((Below.refl _ w).alloc (Ay _) _).drew|exact(Below.refl _ w).drew.alloc (Ay _) _|exact(Below.refl _ w).alloc (Ay _) _
     ·first|exact Ah.new w 53 _|exact Ah.new w.drew 53 _
    ·rfl
    ·rfl
    ·rfl
    ·rfl
    intro A k3 w3 r1 r2 C l;obtain⟨p,rfl,ab,ae,t,q⟩:=TB r1;obtain⟨u0,q0⟩:=q 0 nX;obtain⟨u1,q1⟩:=q 1 nX;obtain⟨u2,q2⟩:=q 2 nX;obtain⟨u3,q3⟩:=q 3 nX;obtain⟨u4,q4⟩:=q 4 nX;simp only[Nat.add_zero]at q0;have az:=t (i*5);have b0:=t (i*5+1);have b1:=t (i*5+2);have b2:=t (i*5+3);have b3:=t (i*5+4);have a4:Below w.heap.size w (w.alloc (oP Ie.toArray 53)):=(Below.refl _ w).alloc (Ay _) _;have a5:(w.alloc (oP Ie.toArray 53)).grownBy w3 x.top.parts.ownBlock:=by rw[R.out];exact⟨C.os,C.tape,C.output,C.size,C.block⟩
    have h3:=(P.out.below a4).app (M:=N+1) (.inr rfl) (HP.out.up (.below a4) (.inr rfl) (Ay _)) (fun b c e he hb f=>r2 b c e he hb f) (R.out▸a5) nX;have hk:=h3.ES a2.out 1 nX;have hm:=h3.ES a2.out 2 nX;simp only[TL.cells,List.getElem?_cons_zero,List.getElem?_cons_succ,R.out]at hk hm;obtain⟨k0,kf⟩:=hk;obtain⟨m0,mf⟩:=hm;have a7:(Value.slice T i U).ownBlock=oM p\/p=w.heap.size+1:=by
     rcases l with l|l
     ·exact .inl l.symm
     ·simp only[Option.some.injEq,Addr.mk.injEq]at l
      exact .inr (by simpa using l.1)
    have a8:¬p=b:=by
     rintro rfl;rcases a7 with h|h
     ·exact af h
     ·omega
    have ax:¬b=p:=fun e=>a8 e.symm
    have ad:(Value.slice T i U).ownBlock=oM p\/w.heap.size<=p:=by
     rcases a7 with h|h
     ·exact .inl h
     ·exact .inr nX
    have a6:=fun(v0 v1 v2 v3 v4:Value) (w4:oU)=>fL (o:=i*5) (v0:=v0) (v1:=v1) (v2:=v2) (v3:=v3) (v4:=v4) (w4:=w4) P.out a2.out a4 a8 h3 ⟨ae,ab⟩ (r1.mono nX) a5 (R.out▸ad)
    have HF:=Hd a6;clear r1 r2 C l q t a5 h3 a6))
  all_goals go_wp2
  all_goals go_end0
  all_goals refine⟨rfl,?_⟩
  all_goals first
   | (refine HF.out (.int .i64 1) (oJ s) (oJ ⟨#[]⟩) (oG oN 0 0) (oG oN 0 0) _ (.inl ?_);unfold Er;with_reducible rfl)
   | (refine HF.out (.int .i64 1) (oJ s) (oJ ⟨#[]⟩) (oG oN 0 0) (oG oN 0 0) _ (.inr ?_);unfold Er;with_reducible rfl)
end
