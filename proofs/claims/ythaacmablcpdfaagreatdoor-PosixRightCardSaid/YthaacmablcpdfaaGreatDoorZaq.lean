/- . A row of items as a text. A row of items as a text. A map from texts of rows of items to places. -/
import Derived.Shelf.Strings.Builder1
import Derived.Test.YthaacmablcpdfaaGreatDoorProg
import Derived.Test.YthaacmablcpdfaaGreatDoorZao
import Derived.Lib.Builder
import Derived.Lib.AppendStr
import Derived.Laws.Externs
import Derived.Test.YthaacmablcpdfaaGreatDoorZap
import Derived.Test.YthaacmablcpdfaaGreatDoorNm
namespace Go.Proofs
open Go.Shelf
def Tryz.lays169_ren:Go.Shelf.Ren:=⟨fun|169=>192|n=>n,fun|70=>267|9=>9|0=>0|72=>270|37=>268|127=>291|3=>3|5=>5|n=>n,fun|n=>n⟩
theorem Tryz.lays169:Go.Proofs.Lays.n169 Tryz.prog Tryz.lays169_ren:={
 mixed:=by kernel_rfl
 f169:=Tryz.func192.trans (congrArg some (by kernel_rfl))
 t0:=Tryz.underlying0
 a0:=Tryz.isAgg0
 z0:=Tryz.sizeOf0
 v0:=Tryz.zeroValue0
 t3:=Tryz.underlying3
 a3:=Tryz.isAgg3
 z3:=Tryz.sizeOf3
 v3:=Tryz.zeroValue3
 t9:=Tryz.underlying9
 a9:=Tryz.isAgg9
 z9:=Tryz.sizeOf9
 v9:=Tryz.zeroValue9
 t37:=Tryz.underlying268
 a37:=Tryz.isAgg268
 z37:=Tryz.sizeOf268
 v37:=Tryz.zeroValue268
 t70:=Tryz.underlying267
 a70:=Tryz.isAgg267
 z70:=Tryz.sizeOf267
 v70:=Tryz.zeroValue267
 t72:=Tryz.underlying270
 a72:=Tryz.isAgg270
 z72:=Tryz.sizeOf270
 v72:=Tryz.zeroValue270
 t127:=Tryz.underlying291
 a127:=Tryz.isAgg291
 z127:=Tryz.sizeOf291
 v127:=Tryz.zeroValue291}
theorem Tryz.Builder_Extra_169:Builder.Extra Tryz.prog Tryz.lays169_ren:={
 sizeBuilder:=by kernel_rfl
 liesBuilder:=by kernel_rfl
 t5:=Tryz.underlying5
 a5:=Tryz.isAgg5
 z5:=Tryz.sizeOf5
 v5:=Tryz.zeroValue5
 infoByte:=by kernel_rfl
 cellsByte:=by kernel_rfl
 sizeByte:=by kernel_rfl
 neB5:=by decide}
open Go.RowKit in
theorem Tryz.Builder_String_any(B b:Nat)(l:List UInt8)(w:World)(h:Lib.IsBuilder 270 5 B b (Lib.byteCells l) w)(hBw:B≤w.heap.size) :
 Calls Tryz.prog 192 #[.pointer (some ⟨b,0,none⟩)] w fun e w'=>e=.returned (.string ⟨l.toArray⟩)∧Below B w w':=Any.Builder_String_any Tryz.lays169 Tryz.Builder_Extra_169 B b l w h hBw
end Go.Proofs
namespace Go.Proofs.YthaacmablcpdfaaGreatDoor
open Go.RowKit
set_option linter.unusedVariables false
theorem Tryz.sizeBld:(Tryz.prog.info? 270).map (·.size)=some 2:=by kernel_rfl
theorem Tryz.liesBld:liesAt Tryz.prog Tryz.prog.depth 270 (2/Tryz.prog.cellsOf 270) 0 270 1=true:=by kernel_rfl
theorem Tryz.infoByte:(Tryz.prog.info? 5).map (fun i=>(i.zero,i.size,i.bytes))=some (some (.int .u8 0),1,1):=by kernel_rfl
set_option maxHeartbeats 1000000 in
set_option maxRecDepth 100000 in
theorem copyc_used(b:Nat)(w:World)(h0:w.cell? ⟨b,0,none⟩=some (.pointer (some ⟨b,0,none⟩))):Calls Tryz.prog 212 #[.pointer (some ⟨b,0,none⟩)] w fun e w'=>e=.returned (.tuple #[])∧w'=w:=by
 obtain⟨j,hj,_⟩:=Option.map_eq_some_iff.1 Tryz.sizeBld;go_enter Tryz.func212,Tryz.ntmps212
 go_wp2;rw[Lib.run_neq_ptr_same w _ Tryz.underlying267 hj];go_wp2
 go_end0
 exact⟨rfl,rfl⟩
set_option maxHeartbeats 1000000 in
set_option maxRecDepth 100000 in
theorem copyc_fresh(b:Nat)(w:World)(h0:w.cell? ⟨b,0,none⟩=some (.pointer none))(hsh:w.shape? b=some (270,2))(hfz:w.frozen? ⟨b,0,none⟩=false) :
  Calls Tryz.prog 212 #[.pointer (some ⟨b,0,none⟩)] w fun e w'=>e=.returned (.tuple #[])∧w'=w.setCell ⟨b,0,none⟩ (.pointer (some ⟨b,0,none⟩)):=by
 obtain⟨j,hj,hjs⟩:=Option.map_eq_some_iff.1 Tryz.sizeBld;go_enter Tryz.func212,Tryz.ntmps212
 go_wp2;rw[Lib.run_to_unsafe w ⟨b,0,none⟩ Tryz.underlying267 Tryz.underlying295 hj (by rw[hjs];decide) hsh (Nat.zero_lt_succ 1)];simp only[Result.andThen];rw[Oper.upon_value];go_wp2;rw[run_callFunc_extern Tryz.func221 (by kernel_rfl) (by kernel_rfl) (by kernel_rfl) (e:=Extern.AbiNoEscape.same) (by kernel_rfl)];rw[Lib.run_noEscape];simp only[Result.andThen];rw[Oper.upon_value];go_wp2;rw[Lib.run_from_unsafe w ⟨b,0,none⟩ Tryz.underlying295 Tryz.underlying267 hj hsh Tryz.liesBld];simp only[Result.andThen];rw[Oper.upon_value];go_wp2
 go_end0
 exact⟨rfl,rfl⟩
theorem copyc_w(B b:Nat)(bs:List Value)(w:World)(h:Lib.IsBuilder 270 5 B b bs w):Calls Tryz.prog 212 #[.pointer (some ⟨b,0,none⟩)] w fun e w'=>e=.returned (.tuple #[])∧Lib.BuilderAt 270 5 B b (.pointer (some ⟨b,0,none⟩)) bs w'∧Below B w w'∧∀g,g≠b→w'.heap[g]?=w.heap[g]?:=by
 rcases h with h|h
 ·refine(copyc_fresh b w h.cell0 h.shape h.frozen0).mono ?_
  rintro e w' ⟨rfl,rfl⟩;exact⟨rfl,h.used _,(Below.refl B w).setCell (p:=⟨b,0,none⟩) h.1 _,fun g hg=>Below.heap_setCell _ _ _ _ hg⟩
 ·refine(copyc_used b w h.cell0).mono ?_
  rintro e w' ⟨rfl,rfl⟩;exact⟨rfl,h,Below.refl B _,fun _ _=>rfl⟩
set_option maxHeartbeats 2000000 in
set_option maxRecDepth 100000 in
theorem write_any(B b g:Nat)(bs:List Value)(x y z:Int)(w:World)(h:Lib.IsBuilder 270 5 B b bs w)(hlen:bs.length+3≤140737488355328)(hBw:B≤w.heap.size)(hg:Blk w g 5 #[.int .u8 x,.int .u8 y,.int .u8 z]) :
  Calls Tryz.prog 191 #[.pointer (some ⟨b,0,none⟩),.slice (some ⟨g,0,none⟩) 3 3] w fun e w'=>e=.returned (.tuple #[.int .i64 3,.nilIface])∧Lib.BuilderAt 270 5 B b (.pointer (some ⟨b,0,none⟩)) (bs++[.int .u8 x,.int .u8 y,.int .u8 z]) w'∧Below B w w':=by
 obtain⟨i0,hi,hz0,hz1,hz2⟩:=info_parts Tryz.infoByte;have hgb:g≠b:=by
  rintro rfl;have h1:w.shape? g=some (270,2):=by rcases h with h|h<;>exact h.shape
  have h2:w.shape? g=some (5,3):=by have:=hg;unfold Blk at this;simp[World.shape?,this]
  rw[h1]at h2;cases h2
 go_enter Tryz.func191,Tryz.ntmps191
 go_wp2_with (go_at_call 212;refine(copyc_w B b bs _ h).mono ?_)
 rintro e w1 ⟨rfl,h1,hb1,hk1⟩;have hg1:Blk w1 g 5 #[.int .u8 x,.int .u8 y,.int .u8 z]:=(hk1 g hgb).trans hg;clear hk1 hg;obtain⟨hB,v,hbk,hown,hne⟩:=h1;have c0:w1.cell? ⟨b,0,none⟩=some (.pointer (some ⟨b,0,none⟩)):=by rw[Lib.cell_of_heap hbk];rfl
 have c1:w1.cell? ⟨b,1,none⟩=some v:=by rw[Lib.cell_of_heap hbk];rfl
 go_wp2_with (at_builtin;refine wpList_append_own _ rfl _ _ 268 rfl B 5 i0 (.int .u8 0) 1 1 Tryz.underlying268 hi hz0 hz1 hz2 rfl (by decide) _ _ _ rfl hown ⟨g,0,none⟩ 3 3 [.int .u8 x,.int .u8 y,.int .u8 z] rfl rfl ?c1 ?c2 ?c3 ?c4 ?c5 ?_)
 case c1=>
  intro j u hj;have hadd:(⟨g,0,none⟩:Addr).add j=⟨g,j,none⟩:=by unfold Addr.add;split<;>simp_all
  rw[hadd,hg1.cell];simpa using hj
 case c2=>intro u hu;simp at hu;rcases hu with rfl|rfl|rfl<;>rfl
 case c3=>unfold maxLen;omega
 case c4=>omega
 case c5=>have:=hb1.size;omega
 intro v' w2 hown' hgrow _;have hlt:b<w1.heap.size:=by
  rcases Nat.lt_or_ge b w1.heap.size with h'|h'
  ·exact h'
  ·simp[Array.getElem?_eq_none h']at hbk
 have hb2:w2.heap[b]?=some (.cells #[.pointer (some ⟨b,0,none⟩),v] 270 (0,0)):=by rw[hgrow.block b hlt (fun e=>hne e.symm)];exact hbk
 have d0:w2.cell? ⟨b,0,none⟩=some (.pointer (some ⟨b,0,none⟩)):=by rw[Lib.cell_of_heap hb2];rfl
 have d1:w2.cell? ⟨b,1,none⟩=some v:=by rw[Lib.cell_of_heap hb2];rfl
 have f1:w2.frozen? ⟨b,1,none⟩=false:=Lib.frozen_of_heap hb2 1;obtain⟨ao,n',cap,rfl⟩:∃ao n' cap,v'=.slice ao n' cap:=by
  rcases hown'.2 with⟨hv,_⟩|⟨g,cap,cur,hv,_⟩
  ·exact⟨_,_,_,hv⟩
  ·exact⟨_,_,_,hv⟩
 go_wp2
 go_ret2
 refine⟨rfl,?_,?_⟩
 ·exact Lib.BuilderAt.put (T:=270) (e:=5) hB hb2 (bs':=bs++[.int .u8 x,.int .u8 y,.int .u8 z]) (by simpa using hown') (by decide)
 ·exact(hb1.grown hgrow (by have:=hb1.size;omega) (fun k hk=>(hown.lt k hk).1)).setCell (p:=⟨b,1,none⟩) hB _
end Go.Proofs.YthaacmablcpdfaaGreatDoor
namespace Go.Proofs.YthaacmablcpdfaaGreatDoor
open Go.RowKit
set_option linter.unusedVariables false
set_option maxRecDepth 100000
def keyI(x:It):List UInt8:=[(x.1/256).toUInt8,x.1.toUInt8,x.2.toUInt8]
def keyL(l:List It):List UInt8:=l.flatMap keyI
theorem keyL_len(l:List It):(keyL l).length=l.length*3:=by
 induction l with
 | nil=>rfl
 | cons x l ih=>show (keyI x++keyL l).length=_;rw[lnA,ih,List.length_cons];show 3+_=_;omega
theorem keyL_cells(l:List It)(x:It):Lib.byteCells (keyL (l++[x]))=Lib.byteCells (keyL l)++[.int .u8 ((x.1/256)%256:Nat),.int .u8 (x.1%256:Nat),.int .u8 (x.2%256:Nat)]:=by simp[keyL,Lib.byteCells,keyI,List.flatMap_append]
theorem keyI_inj{x y:It}(hx:x.1<65536∧x.2<256)(hy:y.1<65536∧y.2<256)(h:keyI x=keyI y):x=y:=by simp only[keyI,List.cons.injEq,and_true]at h;have h1:=congrArg UInt8.toNat h.1;have h2:=congrArg UInt8.toNat h.2.1;have h3:=congrArg UInt8.toNat h.2.2;simp only[Nat.toUInt8_eq,UInt8.toNat_ofNat']at h1 h2 h3;exact Prod.ext (by omega) (by omega)
theorem keyL_inj:∀{l m:List It},(∀x∈l,x.1<65536∧x.2<256)→(∀x∈m,x.1<65536∧x.2<256)→keyL l=keyL m→l=m
 | [],[],_,_,_=>rfl
 | [],y::m,_,_,h=>by have:=congrArg List.length h;rw[keyL_len,keyL_len]at this;simp at this
 | x::l,[],_,_,h=>by have:=congrArg List.length h;rw[keyL_len,keyL_len]at this;simp at this
 | x::l,y::m,hx,hy,h=>by have h':keyI x++keyL l=keyI y++keyL m:=h;obtain⟨h1,h2⟩:=List.append_inj h' rfl;rw[keyI_inj (hx x (List.mem_cons_self ..)) (hy y (List.mem_cons_self ..)) h1,keyL_inj (fun z hz=>hx z (List.mem_cons_of_mem _ hz)) (fun z hz=>hy z (List.mem_cons_of_mem _ hz)) h2]
theorem isB_later{T e:TypeId}{B b:Nat}{bs:List Value}{w w':World}(h:Lib.IsBuilder T e B b bs w)(hb:Below w.heap.size w w'):Lib.IsBuilder T e B b bs w':=by
 have key:∀p,Lib.BuilderAt T e B b p bs w→Lib.BuilderAt T e B b p bs w':=fun p hp=>by have hlt:=hp.lt;obtain⟨hB,v,h1,h2,h3⟩:=hp;exact⟨hB,v,(hb.block b hlt).trans h1,own_below h2 hb,h3⟩
 exact h.imp (key _) (key _)
theorem key_any{w:World}{v:Value}{l:List It}(h:Prs w v l)(hl:l.length≤100000)(hx:∀x∈l,x.1≤100000∧x.2≤100000):Calls Tryz.prog 146 #[v] w fun e w'=>e=.returned (.string ⟨(keyL l).toArray⟩)∧Below w.heap.size w w':=by
 obtain⟨⟨A,c,rfl,hc⟩,-,-⟩:=h;have HC:=Hd hc;have HX:=Hd hx;clear hc hx;have HI0:=Hd (Lib.fresh_isBuilder 270 5 w);have HB0:=Hd (below_alloc w (.cells #[.pointer none,.slice none 0 0] 270));obtain⟨r,hr⟩:∃r,(⟨(keyL l).toArray⟩:ByteArray)=r:=⟨_,rfl⟩
 have HR:=Hd hr;rw[hr];clear hr;go_enter Tryz.func146,Tryz.ntmps146
 go_wp2_with fail
 go_loopw [8] (fun i wr=>∃k:Nat,k≤l.length∧i=.int .i64 k∧Hid (Lib.IsBuilder 270 5 w.heap.size w.heap.size (Lib.byteCells (keyL (l.take k))) wr)∧Hid (Below w.heap.size w wr)∧w.heap.size<wr.heap.size) (fun i _=>l.length-(intOf i).toNat)
 case atStart=>exact⟨0,zeL _,rfl,HI0,HB0,by simp⟩
 case round=>
  obtain⟨k,hk,rfl,HI,HB,hws⟩:=hrel;by_cases hlt:k<l.length
  ·obtain⟨⟨a,d⟩,hxt⟩:∃x,l[k]?=some x:=⟨_,eG hlt⟩
   obtain⟨b2,off2,rfl,hb2,d0,d1⟩:=HC.out k _ hxt;have hab:=HX.out _ (mG hxt);have d0:=(HB.out.cell (p:=⟨b2,off2+k*2,none⟩) hb2).trans d0;have d1:=(HB.out.cell (p:=⟨b2,off2+k*2+1,none⟩) hb2).trans d1;simp only at d0 d1 hab;have htk:l.take (k+1)=l.take k++[(a,d)]:=by rw[List.take_add_one,hxt];rfl
   have HTK:Hid (Lib.byteCells (keyL (l.take k))++[.int .u8 ((a:Int)/256%256),.int .u8 ((a:Int)%256),.int .u8 ((d:Int)%256)]=Lib.byteCells (keyL (l.take (k+1)))):=Hd (by rw[htk,keyL_cells];simp);have HLEN:Hid ((Lib.byteCells (keyL (l.take k))).length+3≤140737488355328):=Hd (by have h1:=keyL_len (l.take k);simp[Lib.byteCells,h1];omega)
   clear htk;have hws2:w.heap.size≤wr.heap.size:=by omega
   go_wp2_with fail
   have hb2:=(below_alloc wr (.cells #[.int .i64 a,.int .i64 d] 194)).trans ((below_alloc (wr.alloc (.cells #[.int .i64 a,.int .i64 d] 194)) (.cells #[.int .u8 ((a:Int)/256%256),.int .u8 ((a:Int)%256),.int .u8 ((d:Int)%256)] 5)).mono (by simp));refine(write_any w.heap.size w.heap.size (wr.heap.size+1) _ ((a:Int)/256%256) ((a:Int)%256) ((d:Int)%256) _ (isB_later HI.out hb2) HLEN.out (by simp;omega) (Blk.newAt (by simp))).mono ?_;rintro e w1 ⟨rfl,hi1,hb1⟩;have HI1:=Hd hi1;have HB1:=Hd ((HB.out.trans (hb2.mono hws2)).trans hb1);have hws1:w.heap.size<w1.heap.size:=by have:=hb2.size;have:=hb1.size;simp at *;omega
   clear hi1 hb1 hb2;go_wp2_with fail
   go_roundw
   case rel=>exact⟨k+1,by omega,by go_num,Hd (by rw[←HTK.out];exact .inr HI1.out),HB1,hws1⟩
   case measure=>simp[intOf];omega
  ·obtain rfl:k=l.length:=by omega
   rw[List.take_length]at HI;have hws2:w.heap.size≤wr.heap.size:=by omega
   go_wp2_with fail
   refine(Tryz.Builder_String_any _ _ _ wr HI.out hws2).mono ?_;rintro e w1 ⟨rfl,hw1⟩;have HB1:=Hd (HB.out.trans hw1);clear hw1;go_wp2;go_ret;exact⟨by rw[←HR.out];rfl,HB1.out⟩
end Go.Proofs.YthaacmablcpdfaaGreatDoor
namespace Go.Proofs.YthaacmablcpdfaaGreatDoor
open Go.RowKit
open Go.Maps (IsMap)
set_option linter.unusedVariables false
set_option maxRecDepth 100000
def AtD(D:DataW Unit)(K:List (List UInt8)):Prop:=∀s,(s∈K→Maps.has D (klR s)=true∧∀z,D.atKey (klR s) z=.lit (.int .i64 (K.idxOf s:Nat)))∧(s ∉ K→Maps.has D (klR s)=false∧∀z,D.atKey (klR s) z=z)
theorem AtD.start:AtD (.map []) []:=fun s=>⟨fun h=>(by cases h),fun _=>⟨rfl,fun _=>rfl⟩⟩
theorem AtD.next{D:DataW Unit}{K:List (List UInt8)}(h:AtD D K)(hm:IsMap D){s:List UInt8}(hs:s ∉ K):AtD (D.put (klR s) (.lit (.int .i64 (K.length:Nat)))) (K++[s]):=by
 intro u;by_cases hu:u=s
 ·subst hu
  refine⟨fun _=>⟨Maps.has_put_same hm (key_litR u) _,fun z=>?_⟩,fun hn=>absurd (List.mem_append_right _ (List.mem_singleton_self u)) hn⟩;rw[Maps.atKey_put_same hm (key_litR u),List.idxOf_append,if_neg hs];simp
 ·have hne:klR u≠klR s:=fun e=>hu (klR_inj e)
  refine⟨fun hin=>?_,fun hn=>?_⟩
  ·have hk:u∈K:=by
    rcases mA.1 hin with h1|h1
    ·exact h1
    ·exact absurd (mS.1 h1) hu
   refine⟨by rw[Maps.has_put_other hne];exact((h u).1 hk).1,fun z=>?_⟩;rw[Maps.atKey_put_other hne,((h u).1 hk).2 z,List.idxOf_append,if_pos hk]
  ·have hk:u ∉ K:=fun h1=>hn (List.mem_append_left _ h1)
   exact⟨by rw[Maps.has_put_other hne];exact((h u).2 hk).1,fun z=>by rw[Maps.atKey_put_other hne];exact((h u).2 hk).2 z⟩
abbrev PMap(w:World)(mb n:Nat)(D:DataW Unit):Prop:=w.ownsMap Tryz.prog 9 (plainElem Tryz.prog 3) mb n D
theorem at_look{w:World}{mb n:Nat}{D:DataW Unit}{K:List (List UInt8)}(h:PMap w mb n D)(hK:AtD D K){s:List UInt8}(hs:s.length≤300000) :
  (Instr.lookup 137 (.map (some mb)) (.string ⟨s.toArray⟩) true).run Tryz.prog w=.ok (.tuple #[.int .i64 (if s∈K then K.idxOf s else 0:Nat),.bool (decide (s∈K))]) w:=by
 have hk:=WideMaps.keyOf_string_mk Tryz.underlying9 (s:=(⟨s.toArray⟩:ByteArray)) (by show s.toArray.size≤_;simp;unfold maxLen;omega);have hz:=plainElem_int (H:=Unit) (a:=0) Tryz.underlying3 (WalkArith.wf_i64 (by omega));obtain⟨v,ps,h1,h2⟩:=h.look_ok lawStrR Tryz.underlying137 (zeroIntR w) hz hk;have h1':(Instr.lookup 137 (.map (some mb)) (.string ⟨s.toArray⟩) true).run Tryz.prog w=.ok (.tuple #[v,.bool (Maps.has D (klR s))]) w:=h1;have h2':plainElem Tryz.prog 3 v=some (D.atKey (klR s) (.lit (.int .i64 0)),ps):=h2;obtain⟨c,rfl,hc,-⟩:=plainElem_int_inv Tryz.underlying3 h2';have hc1:D.atKey (klR s) (.lit (.int .i64 0))=.lit (.int .i64 c):=congrArg Prod.fst hc
 rw[h1'];by_cases hm:s∈K
 ·obtain⟨a1,a2⟩:=(hK s).1 hm
  rw[a2]at hc1;simp only[DataW.lit.injEq,Lit.int.injEq,true_and]at hc1;rw[a1,←hc1,if_pos hm,decide_eq_true hm]
 ·obtain⟨a1,a2⟩:=(hK s).2 hm
  rw[a2]at hc1;simp only[DataW.lit.injEq,Lit.int.injEq,true_and]at hc1;rw[a1,←hc1,if_neg hm,decide_eq_false hm];rfl
theorem at_put{w:World}{mb n:Nat}{D:DataW Unit}(h:PMap w mb n D)(hn:n≤100000){s:List UInt8}(hs:s.length≤300000){c:Nat}(hc:c≤100000) :
  ∃w',(Instr.mapUpdate 137 (.map (some mb)) (.string ⟨s.toArray⟩) (.int .i64 (c:Int))).run Tryz.prog w=.ok () w'∧PMap w' mb (n+1) (D.put (klR s) (.lit (.int .i64 (c:Int))))∧w.grownBy w' (some mb):=by
 have hk:=WideMaps.keyOf_string_mk Tryz.underlying9 (s:=(⟨s.toArray⟩:ByteArray)) (by show s.toArray.size≤_;simp;unfold maxLen;omega);exact h.update lawStrR Tryz.underlying137 (by unfold maxLen;omega) hk (plainElem_int Tryz.underlying3 (WalkArith.wf_i64 (by omega)))
end Go.Proofs.YthaacmablcpdfaaGreatDoor
