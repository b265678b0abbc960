/- . -/
import Derived.Test.YtendpobbjjaopaaGreatDoorXcf
set_option linter.all false
set_option maxRecDepth 100000
set_option maxHeartbeats 16000000
namespace Go.Proofs.YtendpobbjjaopaaGreatDoor
open Go.RowKit
open Value renaming slice→oG,int→oH,pointer→oI
open Option renaming some→oM,none→oN
section
variable {w0 w:World} {N g:Nat} {x:TM}
def AK.N8(h:AK w0 N g w x)(d:Int):AK w0 N g (w.setCell ⟨g,8,oN⟩ (oH .i64 d)) {x with deep:=d}:=h.set 8 _ _ rfl rfl rfl rfl h.Jl
def AK.Zf(h:AK w0 N g w x)(c:UInt8):AK w0 N g (w.setCell ⟨g,10,oN⟩ (oH .u8 c.toNat)) {x with cut:=c}:=h.set 10 _ _ rfl rfl rfl rfl h.Jl
def cW(h:AK w0 N g w x)(t:N<=1000000)(d:Int)(c:UInt8){i:Option Addr}{l j:Nat}(C:x.buf=oG i l j) :
  JL Tryz.prog ((w.setCell ⟨g,8,oN⟩ (oH .i64 d)).alloc (.cells #[oH .u8 c.toNat] 5)) 69 5 1 1 w0.heap.size l j 1 i (oG (oM ⟨w.heap.size,0,oN⟩) 1 1):=by
 have o:=h.N8 d;have p:=JB o.buf (show ({x with deep:=d}:TM).buf=oG i l j from C) o.le t c;rwa [show (w.setCell ⟨g,8,oN⟩ (oH .i64 d)).heap.size=w.heap.size by simp[World.setCell]]at p
def XW(h:AK w0 N g w x)(hN:N<=600000)(c:UInt8) :
  Calls Tryz.prog 85 #[oI (oM ⟨g,0,oN⟩),oH .u8 c.toNat] w (Cc w0 (N+2) g):=by
 obtain⟨BA,Bn,Bc,s,J,b0,a0⟩:=h.LP;have bf:=h.Aj.frozen 7;have b8:=h.Aj.cell 8;have f8:=h.Aj.frozen 8;simp only[TM.cells,List.getElem?_toArray,List.getElem?_cons_zero,List.getElem?_cons_succ]at b8;have a1:=h.Aj.lt;have a2:¬g=w.heap.size:=by omega
 have a3:¬w.heap.size=g:=by omega
 have HA:=Hd (JB h.buf J h.le nX c);have T:=Hd (fun d c=>cW h nX d c J);have R:=Hd J;have p:=Hd h;clear h J;go_enter Tryz.func85,Tryz.ntmps85
 go_wp2_with (first
  | (
   go_at_call 111;refine(Jp p.out).mono ?_;rintro e P ⟨rfl,C⟩
   have t:=Hd (C.ex (M:=N+2) nX);clear C)
  | (
   go_at_call 114;refine(Dd p.out 14 nX).mono ?_;rintro e P ⟨rfl,C⟩
   have t:=Hd (C.ex (M:=N+2) nX);clear C)
  | (
   at_builtin;refine Hu HA.out (.tmp 46) (.tmp 48) rfl rfl rfl rfl ?_;intro A U P j l o I
   obtain⟨⟨k4,k5⟩,i⟩:=p.out.K9 R.out j l o;have t:=Hd (i.ex (M:=N+2) nX);clear j l o I i)
  | (
   at_builtin;refine Hu (T.out (wrap64 (x.deep+1)) c) (.tmp 46) (.tmp 48) rfl rfl rfl rfl ?_;intro A U P j l o I
   obtain⟨⟨k4,k5⟩,i⟩:=(p.out.N8 (wrap64 (x.deep+1))).K9 R.out j l o;have t:=Hd (i.ex (M:=N+2) nX);clear j l o I i)
  | (
   at_builtin;refine Hu (T.out (wrap64 (x.deep-1)) 41) (.tmp 46) (.tmp 48) rfl rfl rfl rfl ?_;intro A U P j l o I
   obtain⟨⟨k4,k5⟩,i⟩:=(p.out.N8 (wrap64 (x.deep-1))).K9 R.out j l o;have t:=Hd (i.ex (M:=N+2) nX);clear j l o I i))
 all_goals go_ret
 all_goals exact⟨_,rfl,t.out⟩
def Q9(h:AK w0 N g w x)(hN:N<=600000)(c:UInt8) :
  Calls Tryz.prog 81 #[oI (oM ⟨g,0,oN⟩),oH .u8 c.toNat] w (Cc w0 (N+2) g):=by
 obtain⟨BA,Bn,Bc,s,U,b0,a1⟩:=h.LP;have C:=h.Aj.cell 9;have T:=h.Aj.cell 10;have a3:=h.Aj.frozen 10;simp only[TM.cells,List.getElem?_toArray,List.getElem?_cons_zero,List.getElem?_cons_succ]at C T;have a2:(convert 69 9 (oG (oM ⟨w.heap.size,0,oN⟩) 1 1)).run Tryz.prog (w.alloc (.cells #[oH .u8 c.toNat] 5))=.ok (.string ⟨#[c]⟩) (w.alloc (.cells #[oH .u8 c.toNat] 5)):=KE w [c];have a4:=h.Aj.lt;have a5:¬g=w.heap.size:=by omega
 have a6:¬w.heap.size=g:=by omega
 have t:=Hd (fun a0=>h.below (AG w a0));have o:=Hd h.Zf;have p:=Hd h;clear h U;generalize x.length=L at C;generalize J:MP [45,61,63,43] c=k;have R:∀y,Hid (Calls Tryz.prog 122 #[oH .u8 c.toNat] y fun e w'=>e=.returned (.bool k)/\w'=y):=fun y=>Hd (J▸Tt c y)
 clear J;cases L
 all_goals cases k
 all_goals go_enter Tryz.func81,Tryz.ntmps81
 all_goals go_wp2_with (first
  | (go_at_call 122;refine(R _).out.mono ?_;rintro e w2 ⟨rfl,hw⟩;cases hw)
  | (
   go_at_call 111;refine(Jp p.out).mono ?_;rintro e l ⟨rfl,i⟩
   have j:=Hd (i.ex (M:=N+2) nX);clear i)
  | (
   go_at_call 118;refine(IT (t.out _) nX _ _ _ _ _ _ _ _ _).mono ?_;rintro e w2 ⟨rfl,a7,I⟩
   have P:=Hd I;clear I)
  | (
   go_at_call 114;refine(Dd P.out 0 nX).mono ?_;rintro e l ⟨rfl,i⟩
   have j:=Hd (i.ex (Ay _));clear i)
  | (
   go_at_call 114;refine(Dd p.out 10 nX).mono ?_;rintro e l ⟨rfl,i⟩
   have j:=Hd (i.ex (M:=N+2) nX);clear i)
  | (
   go_at_call 114;refine(Dd (o.out 37) 11 nX).mono ?_;rintro e l ⟨rfl,i⟩
   have j:=Hd (i.ex (M:=N+2) nX);clear i)
  | (
   go_at_call 114;refine(Dd (o.out 35) 11 nX).mono ?_;rintro e l ⟨rfl,i⟩
   have j:=Hd (i.ex (M:=N+2) nX);clear i)
  | (
   go_at_call 114;refine(Dd (o.out c) 11 nX).mono ?_;rintro e l ⟨rfl,i⟩
   have j:=Hd (i.ex (M:=N+2) nX);clear i)
  | (
   go_at_call 123;refine(MU (t.out _) nX ⟨#[c]⟩).mono ?_;rintro e l ⟨rfl,y,i,-⟩
   have j:=Hd (i.ex (M:=N+2) nX);clear i))
 all_goals go_ret
 all_goals exact⟨_,rfl,j.out⟩
def Xf(h:AK w0 N g w x)(t:N<=600000)(c:UInt8) :
  Calls Tryz.prog 120 #[oI (oM ⟨g,0,oN⟩),oH .i64 9,oH .u8 c.toNat] w (Cc w0 (N+2) g):=by
 have l:=Hd h;clear h;go_enter Tryz.func120,Tryz.ntmps120
 go_wp2_with fail
 refine(KP l.out 9 nX).mono ?_;rintro e I ⟨rfl,i⟩;have C:=i.Aj.cell 1;simp only[TM.cells,Iv,List.getElem?_toArray,List.getElem?_cons_zero,List.getElem?_cons_succ]at C;have o:=Hd i;clear i;go_wp2_with fail
 refine(Q9 o.out t c).mono ?_;rintro e J ⟨s,rfl,j⟩;have p:=Hd j;clear j;go_wp2;go_ret;exact⟨_,rfl,p.out⟩
def UI(h:AK w0 N g w x)(U:N<=600000)(c:UInt8) :
  Calls Tryz.prog 80 #[oI (oM ⟨g,0,oN⟩),oH .u8 c.toNat] w (Cc w0 (N+2) g):=by
 obtain⟨BA,Bn,Bc,s,i,b0,a0⟩:=h.LP;have bf:=h.Aj.frozen 7;have T:=h.Aj.cell 2;simp only[TM.cells,List.getElem?_toArray,List.getElem?_cons_zero,List.getElem?_cons_succ]at T;have a1:=h.Aj.lt;have a2:¬g=w.heap.size:=by omega
 have a3:¬w.heap.size=g:=by omega
 have J:=Hd (JB h.buf i h.le nX c);have P:=Hd i;have j:=Hd h;clear h i;generalize hk:Bo c=k at *;have R:∀y,Hid (Calls Tryz.prog 53 #[oH .u8 c.toNat] y fun e w'=>e=.returned (oH .i64 k)/\w'=y):=fun y=>Hd (hk▸I4 c y)
 go_enter Tryz.func80,Tryz.ntmps80
 go_wp2_with (first
  | (go_at_call 53;refine(R _).out.mono ?_;rintro e w2 ⟨rfl,hw⟩;cases hw)
  | (
   at_builtin;refine Hu J.out (.tmp 25) (.tmp 27) rfl rfl rfl rfl ?_;intro A k3 w3 t C I r4
   obtain⟨⟨k4,k5⟩,p⟩:=j.out.K9 P.out t C I;have l:=Hd (p.ex (M:=N+2) nX);clear t C I r4 p)
  | (
   go_at_call 120;refine(Xf j.out U c).mono ?_;rintro e w3 ⟨s2,rfl,o⟩
   have l:=Hd o;clear o))
 all_goals go_ret
 all_goals exact⟨_,rfl,l.out⟩
end
