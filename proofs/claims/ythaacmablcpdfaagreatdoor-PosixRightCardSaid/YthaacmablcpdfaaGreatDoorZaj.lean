/- Two rows of texts. -/
import Derived.Test.YthaacmablcpdfaaGreatDoorZah
import Derived.Lib.AppendZeros
import Derived.Test.YthaacmablcpdfaaGreatDoorNm
namespace Go.Proofs.YthaacmablcpdfaaGreatDoor
open Go.RowKit
set_option linter.unusedVariables false
theorem Tryz.infoStr:(Tryz.prog.info? 9).map (fun i=>(i.zero,i.size,i.bytes))=some (some (.string ⟨#[]⟩),1,16):=by kernel_rfl
theorem ElStr:El Tryz.prog 30 9 1 16:=El.of Tryz.underlying30 Tryz.infoStr rfl (by decide)
theorem str_one(s:ByteArray):(StrV s).oneCell'=true:=rfl
set_option maxRecDepth 100000 in
theorem grow_any(n:Nat)(hn:n≤4000000)(w:World):Calls Tryz.prog 186 #[.slice none 0 0,.int .i64 n] w fun e w'=>∃o,e=.returned o∧OutAt 9 w [] o w':=by
 by_cases h0:n=0
 ·subst h0
  go_enter Tryz.func186,Tryz.ntmps186
  go_wp2;go_ret;exact⟨_,rfl,OutAt.nil _ _⟩
 ·obtain⟨i,hi,hz0,hz1,hz2⟩:=info_parts Tryz.infoStr
  have hr:=Lib.run_append_nil_zeros (P:=Tryz.prog) w 30 3 30 9 i (.string ⟨#[]⟩) .i64 .i64 Tryz.underlying30 Tryz.underlying3 hi hz0 n (by omega) (by omega) (by omega) (by rw[hz2];omega);have hge:=grownCap_ge w n 0 9;have hcm:grownCap w n 0 9≤maxLen:=grownCap_le_maxLen w n 0 9 (by unfold maxLen;omega);generalize grownCap w n 0 9=cap at *;have hc0:(Builtin.zeroCells (Value.string ⟨#[]⟩).cells n++Builtin.zeroCells (Value.string ⟨#[]⟩).cells (cap-n)).size=cap:=by simp[Builtin.zeroCells,Value.cells];omega
  generalize Builtin.zeroCells (Value.string ⟨#[]⟩).cells n++Builtin.zeroCells (Value.string ⟨#[]⟩).cells (cap-n)=cs at *;have hpos:0<(n:Int):=by omega
  have HR:=Hd hr;clear hr;go_enter Tryz.func186,Tryz.ntmps186
  go_wp2_with (at_builtin;refine Lib.wpList_append_run _ rfl _ _ _ _ rfl _ _ rfl rfl _ _ HR.out ?_)
  go_ret;refine⟨_,rfl,some ⟨w.heap.size,0,none⟩,cap,rfl,?_,?_⟩
  ·exact own_made (W:=w.drew) rfl (leR _) hcm (by omega)
  ·exact below_drew (below_alloc w _)
def CatAt(w:World)(xs ys:List Value)(o i:Value)(wr:World):Prop:=
 (i=.int .i64 0∧OutAt 9 w [] o wr)∨(i=.int .i64 1∧OutAt 9 w xs o wr)∨(i=.int .i64 2∧OutAt 9 w (xs++ys) o wr)
set_option maxRecDepth 100000 in
set_option maxHeartbeats 3200000 in
theorem concat_any{w:World}{u v:Value}{a b:List ByteArray}{B:Nat}(ha:Arr StrV w u a)(hb:Arr StrV w v b)(hla:a.length≤1048576)(hlb:b.length≤1048576)(hu:w.cell? ⟨B,0,none⟩=some u)(hv:w.cell? ⟨B,1,none⟩=some v) :
  Calls Tryz.prog 132 #[.slice (some ⟨B,0,none⟩) 2 2] w fun e w'=>∃o,e=.returned o∧OutAt 9 w ((a++b).map StrV) o w':=by
 have HSA:=Hd (fun y (hy:Below w.heap.size w y)=>(ha.later hy).src str_one);have HSB:=Hd (fun y (hy:Below w.heap.size w y)=>(hb.later hy).src str_one);have HG:=Hd (fun n hn=>grow_any n hn w);have hB:=World.block_lt_of_cell? w _ hu;obtain⟨⟨A1,c1,rfl,_⟩,_⟩:=ha;obtain⟨⟨A2,c2,rfl,_⟩,_⟩:=hb;have hxl:(a.map StrV).length=a.length:=lM _;have hyl:(b.map StrV).length=b.length:=lM _;rw[mpA];generalize a.map StrV=xs at *;generalize b.map StrV=ys at *;generalize a.length=n at *;generalize b.length=m at *;subst hxl;subst hyl;have HGR:=Hd (HG.out (xs.length+ys.length) (by omega))
 have hEl:=ElStr;clear HG;go_enter Tryz.func132,Tryz.ntmps132
 go_wp2
 go_loop [3,11] (fun s i=>(i=.int .i64 0∧s=.int .i64 0)∨(i=.int .i64 1∧s=.int .i64 xs.length)∨(i=.int .i64 2∧s=.int .i64 ((xs.length+ys.length:Nat):Int))) (fun _ i=>2-(intOf i).toNat)
 case atStart=>exact .inl ⟨rfl,rfl⟩
 case round=>
  rcases hrel with⟨rfl,rfl⟩|⟨rfl,rfl⟩|⟨rfl,rfl⟩
  ·go_wp2
   go_round
   case rel=>exact .inr (.inl ⟨rfl,rfl⟩)
   case measure=>simp[intOf]
  ·go_wp2
   go_round
   case rel=>exact .inr (.inr ⟨rfl,by go_num⟩)
   case measure=>simp[intOf]
  ·go_wp2_with fail
   refine HGR.out.mono ?_;rintro e w1 ⟨o,rfl,hO⟩;have HO:=Hd hO;clear hO;go_wp2;go_loopw [6,27] (fun o i wr=>Hid (CatAt w xs ys o i wr)) (fun _ i _=>2-(intOf i).toNat)
   case atStart=>exact Hd (.inl ⟨rfl,HO.out⟩)
   case round=>
    rcases hrel.out with⟨rfl,A,c,rfl,ho,hbw⟩|⟨rfl,A,c,rfl,ho,hbw⟩|⟨rfl,hO2⟩
    ·have HO:=Hd ho
     have HB:=Hd hbw;have e0:=(hbw.cell (p:=⟨B,0,none⟩) hB).trans hu;have HS:=Hd (HSA.out wr hbw);have hws:=hbw.size;clear ho hbw hrel;go_wp2_with (at_builtin;refine wpList_app ElStr (.tmp 31) (.tmp 32) rfl rfl (base:=w.heap.size) (n:=0) (m:=xs.length) (N:=xs.length) (xs:=[]) (news:=xs) rfl rfl HO.out HS.out (by omega) (by unfold maxLen;omega) (by omega) hws ?_;intro A2 c2 w2 r1 r2 r3;have HF:=Hd (out_app HB.out (xs:=[]) (by simp) r1 r2);clear r1 r2 r3)
     go_roundw
     case rel=>exact Hd (.inr (.inl ⟨rfl,HF.out⟩))
     case measure=>simp[intOf]
    ·have HO:=Hd ho
     have HB:=Hd hbw;have e1:=(hbw.cell (p:=⟨B,1,none⟩) hB).trans hv;have HS:=Hd (HSB.out wr hbw);have hws:=hbw.size;clear ho hbw hrel;go_wp2_with (at_builtin;refine wpList_app ElStr (.tmp 31) (.tmp 32) rfl rfl (base:=w.heap.size) (n:=xs.length) (m:=ys.length) (N:=xs.length+ys.length) (xs:=xs) (news:=ys) rfl rfl HO.out HS.out rfl (by unfold maxLen;omega) (by omega) hws ?_;intro A2 c2 w2 r1 r2 r3;have HF:=Hd (out_app HB.out rfl r1 r2);clear r1 r2 r3)
     go_roundw
     case rel=>exact Hd (.inr (.inr ⟨rfl,HF.out⟩))
     case measure=>simp[intOf]
    ·have HO2:=Hd hO2
     clear hO2 hrel;go_wp2;go_ret;exact⟨_,rfl,HO2.out⟩
end Go.Proofs.YthaacmablcpdfaaGreatDoor
