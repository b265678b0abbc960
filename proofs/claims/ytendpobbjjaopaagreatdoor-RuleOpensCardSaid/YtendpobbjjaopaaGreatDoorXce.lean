/- . -/
import Derived.Test.YtendpobbjjaopaaGreatDoorXcd
import Derived.Deep.RegionHeld3
import Derived.Laws.BitsLemmas
set_option linter.all false
set_option maxRecDepth 100000
set_option maxHeartbeats 16000000
namespace Go.Proofs.YtendpobbjjaopaaGreatDoor
open Go.RowKit
open Value renaming slice→oG
open Option renaming some→oM,none→oN
open Go renaming World→oU
section
variable {w0 w:oU} {N g:Nat} {x:TM}
def mw(h:AK w0 N g w x)(hN:N<=800000)(C:x.lower≠[]) :
  Calls Tryz.prog 113 #[.pointer (oM ⟨g,0,oN⟩)] w fun e w'=>e=.returned (.int .i64 0)/\∃x',AK w0 (N+3) g w' x'/\x'.kind=0:=by
 obtain⟨I,t,C⟩:∃I t,x.lower=I++[t]:=by
  rcases List.eq_nil_or_concat x.lower with h0|⟨I,t,h0⟩
  ·exact absurd h0 C
  ·exact⟨I,t,by rw[h0,List.concat_eq_append]⟩
 obtain⟨b,c,a0,a8,a9,ag,-,-,-⟩:=h.lvl;have HT:=Hd (KJ h a0 nX);have j:=Hd a0;have H0:=Hd h;have a4:=Hd C;clear a0 h C;go_enter Tryz.func113,Tryz.ntmps113
 go_wp2_with fail
 refine HT.out.mono ?_;rintro e w1 ⟨rfl,m,rfl⟩;have h1:=H0.out.below (Ki w m);generalize w.drewN m=w1 at *;have a5:=Hd h1;clear h1 HT;go_wp2_with fail
 refine(OE a5.out j.out nX).mono ?_;rintro e l ⟨rfl,y,i,-,-⟩;obtain⟨R,U,T,a2,-,-⟩:=(i.EU _ (IN _)).1;simp only at a2;have d0:=(i.ES j.out 0 nX).1;have d1:=(i.ES j.out 1 nX).1;have d3:=(i.ES j.out 3 nX).1;have d4:=(i.ES j.out 4 nX).1;simp only[TL.cells,List.getElem?_cons_zero,List.getElem?_cons_succ,a2,Nat.add_zero]at d0 d1 d3 d4;have g0:=i.Aj.cell 0;have gf:=i.Aj.frozen 0;simp only[TM.cells,List.getElem?_toArray,List.getElem?_cons_zero,j.out]at g0;have ah:=i.Aj.lt;have aa:b<l.heap.size:=World.block_lt_of_cell? l _ d0
 have a3:=AK.pop i a4.out j.out;have a1:=Hd a3;have hn:=i.n;clear i a3;have ai:¬g=l.heap.size:=by omega
 have aj:¬l.heap.size=g:=by omega
 have ab:¬b=l.heap.size:=by omega
 have ad:¬l.heap.size=b:=by omega
 simp only at hn;have ak:IntKind.i64.wrap (x.lower.length:Int)=(x.lower.length:Int):=by rw[IntKind.wrap_i64];omega
 have ae:(0:Int)<=(x.lower.length:Int):=by omega
 have af:(x.lower.length:Int)<=(c:Int):=by omega
 by_cases a6:y.place=2
 ·have a7:((y.place:Int)==2)=true:=by simp[a6]
  go_wp2_with fail
  go_region_held3 (fun w'=>w'.cell? ⟨b,x.lower.length*5+1,oN⟩=oM (oG R U T)/\w'.cell? ⟨b,x.lower.length*5+3,oN⟩=oM (.string y.name)/\w'.cell? ⟨b,x.lower.length*5+4,oN⟩=oM (.string y.op)) (go_keep) (fail)
  go_wp2_with fail
  go_region_law (fail)
  all_goals go_wp2_with fail
  all_goals refine(IT (a1.out.below ((((Below.refl _ _).alloc (Ay _) _).drew).drew)) nX 5 y.name y.op R U T oN 0 0).mono ?_
  all_goals rintro e w3 ⟨rfl,t',p⟩
  all_goals have P:=Hd p
  all_goals clear p
  all_goals go_wp2_with fail
  all_goals refine(Dd P.out 0 nX).mono ?_
  all_goals rintro e w4 ⟨rfl,o⟩
  all_goals have J:=Hd o
  all_goals clear o
  all_goals go_wp2
  all_goals go_ret
  all_goals exact⟨rfl,_,J.out,rfl⟩
 ·have a7:((y.place:Int)==2)=false:=by simp;omega
  go_wp2_with fail
  go_region_law (fail)
  all_goals go_wp2_with fail
  all_goals refine(IT (a1.out.below (((Below.refl _ _).alloc (Ay _) _).drew)) nX 4 ⟨#[]⟩ ⟨#[]⟩ R U T oN 0 0).mono ?_
  all_goals rintro e w3 ⟨rfl,t',p⟩
  all_goals have P:=Hd p
  all_goals clear p
  all_goals go_wp2_with fail
  all_goals refine(Dd P.out 0 nX).mono ?_
  all_goals rintro e w4 ⟨rfl,o⟩
  all_goals have J:=Hd o
  all_goals clear o
  all_goals go_wp2
  all_goals go_ret
  all_goals exact⟨rfl,_,J.out,rfl⟩
end
def Cc(w0:oU)(N g:Nat):Ending->oU->Prop:=fun e i=>∃s:Int,e=.returned (.int .i64 s)/\∃x,AK w0 N g i x
section
variable {w0 w:oU} {N g:Nat} {x:TM}
def AK.ex{M:Nat}(h:AK w0 N g w x)(i:N<=M):∃y,AK w0 M g w y:=⟨x,h.mono i⟩
def AK.quote(h:AK w0 N g w x):AK w0 N g (w.setCell ⟨g,6,oN⟩ (.bool true)) {x with quoted:=true}:=h.set 6 _ _ rfl rfl rfl rfl h.Jl
def AK.Qz(h:AK w0 N g w x):AK w0 N g (w.setCell ⟨g,7,oN⟩ (oG oN 0 0)) {x with buf:=oG oN 0 0}:=h.set 7 _ _ rfl rfl rfl rfl ⟨h.took,h.plain,Sl.nil⟩
def NB{B:Nat}(w:oU)(i:B<=w.heap.size)(c:UInt8):Sl B 2 (w.alloc (.cells #[.int .u8 c.toNat] 5)) 5 1 (oG (oM ⟨w.heap.size,0,oN⟩) 1 1):=
 ⟨_,_,_,rfl,nX,.inr ⟨_,_,rfl,i,Ah.new w _ _,Ay _,oB,rfl,fun u j _=>⟨c,by simpa using j⟩⟩⟩
theorem N5(h:AK w0 N g w x)(hN:N<=700000)(c:UInt8):Calls Tryz.prog 73 #[.pointer (oM ⟨g,0,oN⟩),.int .u8 c.toNat] w (Cc w0 (N+4) g):=by
 obtain⟨b,cc,I,a4,a5,a6,-,-,-⟩:=h.lvl;have J:=h.zero;obtain⟨p,hp,a3⟩:∃p:Int,(x.top.place:Int)=p/\(p=0\/x.lower≠[]):=by
  refine⟨_,rfl,?_⟩;cases hl:x.lower with
  | nil=>simp[TM.levels,hl]at J;exact .inl (by rw[J];rfl)
  | cons a a8=>exact .inr oA
 have P:=Hd (KJ h I nX);have C:=Hd I;have H0:=Hd h;clear I h J;rcases a3 with rfl|HL;all_goals go_enter Tryz.func73,Tryz.ntmps73
 all_goals go_wp2_with fail
 all_goals refine P.out.mono ?_
 all_goals rintro e w1 ⟨rfl,m,rfl⟩
 all_goals have o:=H0.out.below (Ki w m)
 all_goals generalize w.drewN m=w1 at *
 all_goals have d0:=(o.ES C.out 0 nX).1
 all_goals simp only[TL.cells,List.getElem?_cons_zero,Nat.add_zero,hp]at d0
 all_goals have q6:=o.Aj.cell 6
 all_goals have q7:=o.Aj.cell 7
 all_goals have f6:=o.Aj.frozen 6
 all_goals have f7:=o.Aj.frozen 7
 all_goals simp only[TM.cells,List.getElem?_toArray,List.getElem?_cons_zero,List.getElem?_cons_succ]at q6 q7
 all_goals have a7:=o.Aj.lt
 all_goals have j:=Hd o
 all_goals have a2:=Hd (KJ o C.out nX)
 all_goals clear o P
 all_goals go_wp2_with fail
 all_goals refine(I4 c _).mono ?_
 all_goals rintro e w2 ⟨rfl,hw⟩
 all_goals subst hw
 all_goals go_wp2_with (first
  | (
    go_at_call 111;refine(Jp j.out).mono ?_;rintro e t ⟨rfl,i⟩
    have l:=Hd (i.mono (M:=N+4) nX);clear i)
  | (
    go_at_call 114;refine(Dd j.out 2 nX).mono ?_;rintro e t ⟨rfl,i⟩
    have l:=Hd (i.mono (M:=N+4) nX);clear i)
  | (
    go_at_call 114;refine(Dd j.out.quote 1 nX).mono ?_;rintro e t ⟨rfl,i⟩
    have l:=Hd (i.mono (M:=N+4) nX);clear i)
  | (
    go_at_call 114;refine(Dd j.out.quote.Qz 12 nX).mono ?_;rintro e t ⟨rfl,i⟩
    have l:=Hd (i.mono (M:=N+4) nX);clear i)
  | (
    go_at_call 113;refine(mw j.out nX HL).mono ?_;rintro e t ⟨rfl,y,i,-⟩
    have l:=Hd (i.mono (M:=N+4) nX);clear i)
  | (
    go_at_call 115;refine(Ud j.out.quote nX 1 ⟨#[]⟩ ⟨#[]⟩).mono ?_;rintro e t ⟨rfl,y,i,-⟩
    have l:=Hd (i.mono (M:=N+4) nX);clear i)
  | (
    go_at_call 116;refine(ND (j.out.below (AG _ _)) (NB _ j.out.le c) nX nX).mono ?_;rintro e t ⟨rfl,y,i,-⟩
    have l:=Hd (i.mono (M:=N+4) nX);clear i)
  | (
    go_at_call 116;refine(ND (j.out.below (AG _ _)) (NB _ j.out.le 39) nX nX).mono ?_;rintro e t ⟨rfl,y,i,-⟩
    have l:=Hd (i.mono (M:=N+4) nX);clear i)
  | (
    go_at_call 110;refine a2.out.mono ?_;rintro e t ⟨rfl,U,rfl⟩
    have i:=j.out.below (Ki w2 U);generalize w2.drewN U=t at *;have a0:=Hd i;clear i)
  | (
    go_at_call 112;refine(OE a0.out C.out nX).mono ?_;rintro e w4 ⟨rfl,y,R,-,-⟩
    have a1:=Hd R;clear R)
  | (
    go_at_call 45;refine(KP a1.out 16 nX).mono ?_;rintro e w5 ⟨rfl,T⟩
    have l:=Hd (T.mono (M:=N+4) nX);clear T))
 all_goals first|go_ret|go_ret3|go_end0
 all_goals exact⟨_,rfl,_,l.out⟩
end
