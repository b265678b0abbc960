/- No name stands twice. Check. -/
import Derived.Test.YthaacmablcpdfaaGreatDoorZai
import Derived.Test.YthaacmablcpdfaaGreatDoorZaj
import Derived.Maps.Own
import Derived.Maps.OwnOps
import Derived.Maps.OwnSet
import Derived.Maps.Views
import Derived.StringKeys
import Derived.Test.YthaacmablcpdfaaGreatDoorNm
namespace Go.Proofs.YthaacmablcpdfaaGreatDoor
open Go.RowKit Go.Maps
set_option linter.unusedVariables false
theorem lawStr:Keyed Tryz.prog 9:=string_keyed Tryz.underlying9
theorem zeroInt(w:World):(zeroValue 3).run Tryz.prog w=.ok (.int .i64 0) w:=by kernel_rfl
def kl(s:ByteArray):Lit:=.string s.data.toList
theorem kl_inj{a b:ByteArray}(h:kl a=kl b):a=b:=by unfold kl at h;injection h with h;exact ByteArray.ext (Array.ext' h)
structure Cnt(D:DataW Unit)(L:List ByteArray)(k:Nat):Prop where
 has:∀s,Maps.has D (kl s)=true↔s∈L.take k
 le:Maps.size D≤k
 nodup:Maps.size D=k↔(L.take k).Nodup
theorem Cnt.start(L:List ByteArray):Cnt (.map []) L 0:=⟨fun s=>by simp[Maps.has],by simp[Maps.size],by simp[Maps.size]⟩
theorem key_lit(s:ByteArray):WideAt.IsKeyLit (kl s):=by unfold kl;simp[WideAt.IsKeyLit]
theorem Cnt.next{D:DataW Unit}{L:List ByteArray}{k:Nat}{s:ByteArray}(h:Cnt D L k)(hs:L[k]?=some s)(ht:Maps.Tidy D)(d:DataW Unit):Cnt (D.put (kl s) d) L (k+1):=by
 obtain⟨hk,rfl⟩:=sG.1 hs;have htk:L.take (k+1)=L.take k++[L[k]]:=List.take_succ_eq_append_getElem hk;have hsz:=Maps.size_put (k:=kl L[k]) ht d;refine⟨fun s=>?_,?_,?_⟩
 ·rw[htk]
  by_cases e:s=L[k]
  ·subst e
   rw[Maps.has_put_same ht.isMap (key_lit _)];exact⟨fun _=>List.mem_append_right _ (mS.2 rfl),fun _=>rfl⟩
  ·rw[Maps.has_put_other (fun hh=>e (kl_inj hh)),h.has,mA,mS]
   exact⟨.inl,fun hh=>hh.resolve_right e⟩
 ·have:=h.le
  rw[hsz];split<;>omega
 ·rw[htk,List.nodup_append,hsz]
  by_cases hm:L[k]∈L.take k
  ·rw[if_pos ((h.has _).2 hm)]
   have:=h.le;constructor
   ·intro hh;omega
   ·rintro⟨_,_,h3⟩
    exact absurd rfl (h3 L[k] hm L[k] (by simp))
  ·rw[if_neg (fun hh=>hm ((h.has _).1 hh))]
   constructor
   ·intro hh
    refine⟨h.nodup.1 (by omega),by simp,?_⟩;intro a ha b hb;rw[mS.1 hb];rintro rfl;exact hm ha
   ·rintro⟨h1,_,_⟩
    have:=h.nodup.2 h1;omega
theorem Cnt.all{D:DataW Unit}{L:List ByteArray}(h:Cnt D L L.length):((Maps.size D:Int)==(L.length:Int))=decide L.Nodup:=by have:=h.nodup;rw[List.take_length]at this;rw[Bool.eq_iff_iff,beq_iff_eq,decide_eq_true_eq,←this];omega
theorem below_more{w y:World}(h:Below w.heap.size w y)(o:Obj):Below w.heap.size w (y.alloc o):=h.alloc h.size o
theorem arr_beside{w wr:World}{o:Value}{L:List ByteArray}{B:Nat}{es:Array MapEntry}{clock:Nat}(h:Arr StrV w o L)(hB:w.heap[B]?=some (.map es clock))(hg:w.grownBy wr (some B)):Arr StrV wr o L:=by
 obtain⟨⟨A,c,hv,hc⟩,hs,hro⟩:=h;refine⟨⟨A,c,hv,fun k x hx=>?_⟩,hs,hro⟩;obtain⟨b,off,hA,hlt,hcell⟩:=hc k x hx;refine⟨b,off,hA,ltL hlt hg.size,?_⟩;have hne:b≠B:=by rintro rfl;simp[World.cell?,hB]at hcell
 rw[World.cell?_of_block (w:=w) (hg.block b hlt (by simp[hne]))];exact hcell
theorem box_beside{w wr:World}{b B:Nat}{v:Value}(h:GBox w b v)(hne:b≠B)(hg:w.grownBy wr (some B)):GBox wr b v:=
 ⟨ltL h.lt hg.size,fun j hj=>by rw[World.cell?_of_block (w:=w) (hg.block b h.lt (by simp[hne]))];exact h.cell j hj⟩
theorem owns_below{w w':World}{B n:Nat}{D:DataW Unit}(h:w.ownsMap Tryz.prog 9 (plainElem Tryz.prog 3) B n D)(hb:Below w.heap.size w w'):w'.ownsMap Tryz.prog 9 (plainElem Tryz.prog 3) B n D:=by obtain⟨es,clock,h1,h2,h3,h4⟩:=h;exact⟨es,clock,by rw[hb.block B (aG.1 h1).1];exact h1,h2,h3,h4⟩
set_option maxRecDepth 100000 in
set_option maxHeartbeats 6400000 in
theorem once_any{w:World}{v:Value}{g:Gm}(h:GrR w v g):Calls Tryz.prog 78 #[v] w (Says w g.once):=by
 have hsm:=h.small;have hT20:=hsm.2.2.1;have hN20:=hsm.2.2.2.1;have hmm:=@run_makeMap Tryz.prog;have HG:=Hd (GBox.new w 32 v);have HTOP:=Hd (fun y (hy:Below w.heap.size w y)=>top_any (h.later hy));obtain⟨AT,cT,AN,cN,AR,cR,rfl,hT,hN,hR⟩:=h.open_;have HCON:Hid (∀y B,Below w.heap.size w y→y.cell? ⟨B,0,none⟩=some (.slice AT g.T.length cT)→y.cell? ⟨B,1,none⟩=some (.slice AN g.N.length cN)→Calls Tryz.prog 132 #[.slice (some ⟨B,0,none⟩) 2 2] y fun e w'=>∃o,e=.returned o∧Arr StrV w' o (g.T++g.N)∧Below y.heap.size y w'):=Hd (fun y B hy h0 h1=>(concat_any (hT.later hy) (hN.later hy) hT20 hN20 h0 h1).mono fun e w' ⟨o,he,ho⟩=>⟨o,he,ho.arr (by rw[lnA];omega),ho.elim fun _ ⟨_,_,_,hb⟩=>hb⟩)
 have HSZ:Hid (∀s∈g.T++g.N,s.size≤maxLen):=Hd (fun s hs=>by
  unfold maxLen;rcases mA.1 hs with hh|hh
  ·have:=hsm.1 s hh;omega
  ·have:=hsm.2.1 s hh;omega)
 have HLEN:Hid ((g.T++g.N).length=g.T.length+g.N.length):=Hd lnA;have HONCE:Hid (g.once=decide (g.T++g.N).Nodup):=Hd rfl;clear h hT hN hR hsm;generalize g.T++g.N=L at *;generalize g.T.length=nT at *;generalize g.N.length=nN at *;generalize g.R.length=nR at *;generalize g.s=gs at *;generalize g.once=res at *;go_enter Tryz.func78,Tryz.ntmps78
 go_wp2_with fail
 refine(HCON.out _ _ (below_more (below_more (below_alloc w _) _) _) ?_ ?_).mono ?_
 ·exact(World.cell?_alloc_at _ _ _ _ (by simp)).trans rfl
 ·exact(World.cell?_alloc_at _ _ _ _ (by simp)).trans rfl
 rintro e w2 ⟨o,rfl,ho,hb2⟩;obtain⟨⟨A,c,rfl,hc⟩,_⟩:=id ho;have HARR:=Hd ho;have hmap0:=World.ownsMap_made (w.alloc (.cells #[.slice AT nT cT,.slice AN nN cN,.slice AR nR cR,.int .i64 gs] 32)) Tryz.prog 9 (plainElem (H:=Unit) Tryz.prog 3);have hB1:(w.alloc (.cells #[.slice AT nT cT,.slice AN nN cN,.slice AR nR cR,.int .i64 gs] 32)).heap.size=w.heap.size+1:=by simp
 rw[hB1]at hmap0;have HOWN:=Hd (owns_below (owns_below hmap0 (below_alloc _ _)) hb2);have HB2:=Hd ((below_more (below_more (below_alloc w _) _) _).trans (hb2.mono (below_more (below_more (below_alloc w _) _) _).size));have HG2:=Hd ((((HG.out.later (below_alloc _ _)).later (below_alloc _ _))).later hb2);have hlen:=HLEN.out;clear hb2 hmap0 hB1 ho hc;go_wp2;go_loopw [14] (fun i wr=>∃k:Nat,k≤L.length∧i=.int .i64 k∧Hid (w2.grownBy wr (some (w.heap.size+1)))∧∃D:DataW Unit,Hid (wr.ownsMap Tryz.prog 9 (plainElem Tryz.prog 3) (w.heap.size+1) k D)∧Hid (Cnt D L k)) (fun i _=>L.length-(intOf i).toNat)
 case atStart=>exact⟨0,zeL _,rfl,Hd (World.grownBy.refl _ _),_,HOWN,Hd (Cnt.start L)⟩
 case round=>
  obtain⟨k,hk,rfl,HGR,D,HO,HC⟩:=hrel;have hws:=HB2.out.size;have hwr:=HGR.out.size;by_cases hlt:k<L.length
  ·have hs:=eG hlt
   generalize L[k]=s at hs;have HKEY:=Hd (WideMaps.keyOf_string_mk Tryz.underlying9 (HSZ.out s (mG hs)));obtain⟨es,clock,hbm,_⟩:=HOWN.out;obtain⟨⟨A',c',e,hc'⟩,_⟩:=arr_beside HARR.out hbm HGR.out;cases e
   obtain⟨b,off,rfl,hlt0,hcell⟩:=hc' k s hs;have HC3:=Hd (fun d=>HC.out.next hs (HO.out.tidy lawStr) d);clear hbm hc' hs;simp only[StrV]at hcell;go_wp2_with (first
    | (at_lookup;refine wpList_lookup_own_int _ rfl _ _ 137 rfl 9 3 .i64 lawStr Tryz.underlying137 Tryz.underlying3 (zeroInt _) (w.heap.size+1) k _ rfl HO.out _ _ rfl HKEY.out ?_;intro c hat hwc)
    | (at_mapUpdate;refine wpList_mapUpdate_own _ rfl _ _ _ 137 rfl 9 3 lawStr Tryz.underlying137 _ (w.heap.size+1) k _ rfl HO.out (by unfold maxLen;omega) _ _ _ rfl rfl HKEY.out _ [] (plainElem_int Tryz.underlying3 (wrap64_wf _)) ?_;intro w3 hown3 hgrow3;have HGR3:=Hd (HGR.out.trans hgrow3);have HO3:=Hd hown3;clear hown3 hgrow3))
   go_roundw
   case rel=>exact⟨k+1,by omega,by go_num,HGR3,_,HO3,Hd (HC3.out _)⟩
   case measure=>simp[intOf];omega
  ·obtain rfl:k=L.length:=by omega
   have hb3:=HB2.out.grown HGR.out HB2.out.size (fun j hj=>by cases hj;omega);obtain⟨d0,d1,d2,d3⟩:=(box_beside HG2.out (by omega) HGR.out).four;have HT:=Hd (HTOP.out wr hb3);have HALL:=Hd HC.out.all;have HB3:=Hd hb3;clear hb3;go_wp2_with (first
    | (at_len;refine wpList_len_own _ rfl _ 137 rfl 9 3 Tryz.underlying137 _ (w.heap.size+1) L.length _ rfl HO.out ?_)
    | (go_at_call 38;refine HT.out.mono ?_;rintro e w4 ⟨rfl,hb4⟩;have HB4:=Hd (HB3.out.trans (hb4.mono HB3.out.size));clear hb4))
   go_ret;refine⟨ret_bool ?_,HB4.out⟩;rw[HONCE.out,←HALL.out,hlen];simp
theorem of_none{l:List Ru}{s:Int}(h:l.any (Gm.left s)=false)(k:Nat):ofTo l s k=[]:=by
 unfold ofTo;rw[List.map_eq_nil_iff,List.filter_eq_nil_iff];intro i _;cases hx:l[i]? with
 | none=>simp
 | some r=>simp only[Option.map_some,Option.getD_some];intro hq;have:l.any (Gm.left s)=true:=List.any_eq_true.2 ⟨r,mG hx,hq⟩;rw[h]at this;cases this
theorem of_upto{l:List Ru}{s:Int}(k:Nat)(hk:k≤l.length):(k≤l.findIdx (Gm.left s)→ofTo l s k=[])∧(l.findIdx (Gm.left s)<k→∃r,ofTo l s k=((l.findIdx (Gm.left s):Nat):Int)::r):=by
 induction k with
 | zero=>exact⟨fun _=>rfl,fun h=>absurd h (Nat.not_lt_zero _)⟩
 | succ k ih=>
  obtain⟨h1,h2⟩:=ih (by omega);have hr:=eG (show k<l.length by omega);constructor
  ·intro hf
   have hno:Gm.left s (l[k]'(by omega))=false:=List.not_of_lt_findIdx (p:=Gm.left s) (xs:=l) (i:=k) (by omega);unfold Gm.left at hno;rw[ofTo_no hr (by simpa using hno)];exact h1 (by omega)
  ·intro hf
   by_cases e:l.findIdx (Gm.left s)=k
   ·have hyes:Gm.left s (l[k]'(by omega))=true:=by
     have:=List.findIdx_getElem (p:=Gm.left s) (xs:=l) (w:=by omega);simpa only[e] using this
    unfold Gm.left at hyes;rw[ofTo_yes hr (by simpa using hyes),h1 (by omega)];exact⟨[],by rw[List.nil_append,e]⟩
   ·obtain⟨r,hr2⟩:=h2 (by omega)
    rw[ofTo_next hr,hr2];exact⟨_,List.cons_append⟩
theorem of_some{l:List Ru}{s:Int}(h:l.any (Gm.left s)=true):∃r,ofTo l s l.length=((l.findIdx (Gm.left s):Nat):Int)::r:=by refine(of_upto l.length (leR _)).2 (List.findIdx_lt_length_of_exists ?_);obtain⟨x,hx,hp⟩:=List.any_eq_true.1 h;exact⟨x,hx,hp⟩
theorem call_one{F:Nat}{a:Value}{y:World}{P:Ending→World→Prop}(h:Calls Tryz.prog F #[a] y P):Calls Tryz.prog F (#[a]++#[]) y P:=h
def Gm.EachTo(g:Gm)(k:Nat):Prop:=∀j,j<k→g.R.any (Gm.left ((g.T.length:Int)+1+j))=true
theorem Gm.EachTo.next{g:Gm}{k:Nat}(h:g.EachTo k)(hk:g.R.any (Gm.left ((g.T.length:Int)+1+k))=true):g.EachTo (k+1):=by
 intro j hj;by_cases e:j=k
 ·subst e;exact hk
 ·exact h j (by omega)
theorem Gm.EachTo.all{g:Gm}(h:g.EachTo g.N.length):g.each=true:=by unfold Gm.each;rw[List.all_eq_true];exact fun j hj=>h j (List.mem_range.1 hj)
theorem each_not{g:Gm}{k:Nat}(hk:k<g.N.length)(h:g.R.any (Gm.left ((g.T.length:Int)+1+k))=false):g.each=false:=by
 cases he:g.each with
 | false=>rfl
 | true=>unfold Gm.each at he;rw[List.all_eq_true]at he;have:=he k (List.mem_range.2 hk);rw[h]at this;cases this
def Ends(w:World)(n:Int)(e:Ending)(w':World):Prop:=e=.returned (.int .i64 n)∧Below w.heap.size w w'
section
variable {w:World} {v:Value} {g:Gm}
structure Asks(w:World)(AT AN AR:Option Addr)(cT cN cR:Nat)(v:Value)(g:Gm):Prop where
 short:∀y,Below w.heap.size w y→Calls Tryz.prog 73 #[.slice AR g.R.length cR,.func (.func 72) #[] #[]] y (Says y (g.R.all shortR))
 terms:∀y,Below w.heap.size w y→Calls Tryz.prog 74 #[.slice AT g.T.length cT,.func (.func 75) #[] #[]] y (Says y (g.T.all okT))
 nons:∀y,Below w.heap.size w y→Calls Tryz.prog 74 #[.slice AN g.N.length cN,.func (.func 76) #[] #[]] y (Says y (g.N.all okN))
 once:∀y,Below w.heap.size w y→Calls Tryz.prog 78 #[v] y (Says y g.once)
 non:∀y,Below w.heap.size w y→Calls Tryz.prog 40 #[v,.int .i64 g.s] y (Says y (g.non g.s))
 known:∀y B,Below w.heap.size w y→GBox y B v→Calls Tryz.prog 73 #[.slice AR g.R.length cR,.func (.func 79) #[] #[.pointer (some ⟨B,0,none⟩)]] y (Says y (g.R.all g.knownR))
 unlike:∀y,Below w.heap.size w y→Calls Tryz.prog 81 #[.slice AR g.R.length cR,.func (.func 82) #[] #[]] y (Says y g.unlike)
 top:∀y,Below w.heap.size w y→Calls Tryz.prog 38 #[v] y (Ends y ((g.T.length:Int)+(g.N.length:Int)))
 of:∀y s,Below w.heap.size w y→Calls Tryz.prog 83 #[v,.int .i64 s] y (fun e w'=>∃A c,e=.returned (.slice A (ofTo g.R s g.R.length).length c)∧Below y.heap.size y w')
theorem asks_any{AT AN AR:Option Addr}{cT cN cR:Nat}(h:GrR w v g)(hT:Arr StrV w (.slice AT g.T.length cT) g.T)(hN:Arr StrV w (.slice AN g.N.length cN) g.N)(hR:Rul w (.slice AR g.R.length cR) g.R):Asks w AT AN AR cT cN cR v g where
 short:=fun y hy=>allR_any (hR.later hy) shortR 72 #[] (fun _ _=>by kernel_rfl) (fun x hx z hz=>call_one (short_any x z ((hR.mem hx).later (hy.trans (hz.mono hy.size)))))
 terms:=fun y hy=>allS_any (hT.later hy) okT 75 #[] (fun _ _=>by kernel_rfl) (fun x hx z hz=>call_one (form2_any x (by have:=h.small.1 x hx;omega) z))
 nons:=fun y hy=>allS_any (hN.later hy) okN 76 #[] (fun _ _=>by kernel_rfl) (fun x hx z hz=>call_one (plain_any x (by have:=h.small.2.1 x hx;omega) z))
 once:=fun y hy=>once_any (h.later hy)
 non:=fun y hy=>non_any (h.later hy) g.s
 known:=fun y B hy hB=>allR_any (hR.later hy) g.knownR 79 #[.pointer (some ⟨B,0,none⟩)] (fun _ _=>by kernel_rfl) (fun x hx z hz=>know3_any h (hR.mem hx) (hy.trans (hz.mono hy.size)) (hB.later hz))
 unlike:=fun y hy=>unlike_any (hR.later hy)
 top:=fun y hy=>top_any (h.later hy)
 of:=fun y s hy=>(of_any (h.later hy) s).mono fun e w' ⟨o,he,A,c,ho,_,hb⟩=>⟨A,c,by rw[he,ho,lM],below_alloc_trans hb⟩
theorem Asks.of2{AT AN AR:Option Addr}{cT cN cR:Nat}(h:Asks w AT AN AR cT cN cR v g)(k:Nat)(y:World)(hy:Below w.heap.size w y):Calls Tryz.prog 83 #[v,.int .i64 ((g.T.length:Int)+1+k)] y (fun e w'=>∃A n c,e=.returned (.slice A n c)∧(g.R.any (Gm.left ((g.T.length:Int)+1+k))=true→((n:Int)==0)=false)∧(g.R.any (Gm.left ((g.T.length:Int)+1+k))=false→n=0)∧Below y.heap.size y w'):=
 (h.of y _ hy).mono fun e w' ⟨A,c,he,hb⟩=>⟨A,_,c,he,fun hq=>by obtain⟨r,hr⟩:=of_some hq;rw[hr,bN,List.length_cons];omega,fun hq=>by rw[of_none hq];rfl,hb⟩
set_option maxRecDepth 100000 in
set_option maxHeartbeats 6400000 in
theorem check_any(h:GrR w v g):Calls Tryz.prog 35 #[v] w (Ends w g.check):=by
 have hsm:=h.small;have hT20:=hsm.2.2.1;have hN20:=hsm.2.2.2.1;have HG:=Hd (GBox.new w 32 v);obtain⟨AT,cT,AN,cN,AR,cR,rfl,hT,hN,hR⟩:=h.open_;have HK:=Hd (asks_any h hT hN hR);have HOF:=Hd (fun k=>(asks_any h hT hN hR).of2 k);have HE1:=Hd (fun k=>@Gm.EachTo.next g k);have HE2:=Hd (@Gm.EachTo.all g);have HE3:=Hd (fun k=>@each_not g k);have HCK:Hid (g.check=if ((decide (g.T.length≤120)&&decide (g.N.length≤120))&&(decide (g.R.length≤300)&&g.R.all shortR)) then(if (g.T.all okT&&g.N.all okN) then(if g.once then(if (g.non g.s&&g.R.all g.knownR) then(if g.unlike then(if g.each then 0 else 9) else 8) else 1) else 8) else 10) else 7):=Hd rfl
 clear h hT hN hR hsm;by_cases q1:g.T.length≤120
 case neg=>
  rw[decide_eq_false q1]at HCK;have HC7:Hid (g.check=7):=Hd (by rw[HCK.out];simp);clear HCK HK HOF HE1 HE2 HE3;generalize g.T.length=nT at *;generalize g.N.length=nN at *;generalize g.R.length=nR at *;go_enter Tryz.func35,Tryz.ntmps35
  go_wp2;go_ret;exact⟨by rw[HC7.out];rfl,below_alloc _ _⟩
 rw[decide_eq_true q1]at HCK;by_cases q2:g.N.length≤120
 case neg=>
  rw[decide_eq_false q2]at HCK;have HC7:Hid (g.check=7):=Hd (by rw[HCK.out];simp);clear HCK HK HOF HE1 HE2 HE3;generalize g.T.length=nT at *;generalize g.N.length=nN at *;generalize g.R.length=nR at *;go_enter Tryz.func35,Tryz.ntmps35
  go_wp2;go_ret;exact⟨by rw[HC7.out];rfl,below_alloc _ _⟩
 rw[decide_eq_true q2]at HCK;by_cases q3:g.R.length≤300
 case neg=>
  rw[decide_eq_false q3]at HCK;have HC7:Hid (g.check=7):=Hd (by rw[HCK.out];simp);clear HCK HK HOF HE1 HE2 HE3;generalize g.T.length=nT at *;generalize g.N.length=nN at *;generalize g.R.length=nR at *;go_enter Tryz.func35,Tryz.ntmps35
  go_wp2;go_ret;exact⟨by rw[HC7.out];rfl,below_alloc _ _⟩
 rw[decide_eq_true q3]at HCK;have K1:=Hd HK.out.short;have K2:=Hd HK.out.terms;have K3:=Hd HK.out.nons;have K4:=Hd HK.out.once;have K5:=Hd HK.out.non;have K6:=Hd HK.out.known;have K7:=Hd HK.out.unlike;have K8:=Hd HK.out.top;clear HK;generalize g.R.all shortR=a1 at *;generalize g.T.all okT=a2 at *;generalize g.N.all okN=a3 at *;generalize g.once=a4 at *;generalize g.non g.s=a5 at *;generalize g.R.all g.knownR=a6 at *;generalize g.unlike=a7 at *;generalize g.each=a8 at *;generalize g.check=res at *;generalize g.T.length=nT at *;generalize g.N.length=nN at *
 generalize g.R.length=nR at *;generalize g.s=gs at *;go_enter Tryz.func35,Tryz.ntmps35
 go_wp2_with fail
 refine(K1.out _ (below_alloc w _)).mono ?_;rintro e w1 ⟨rfl,hb1⟩;have HB1:=Hd (below_alloc_trans hb1);have HG1:=Hd (HG.out.later hb1);cases a1 with
 | false=>clear hb1;go_wp2;go_ret;exact⟨by rw[HCK.out];rfl,HB1.out⟩
 | true=>
 obtain⟨d0,d1,d2,d3⟩:=HG1.out.four;clear hb1;go_wp2_with fail
 refine(K2.out _ HB1.out).mono ?_;rintro e w2 ⟨rfl,hb2⟩;have HB2:=Hd (HB1.out.trans (hb2.mono HB1.out.size));have HG2:=Hd (HG1.out.later hb2);cases a2 with
 | false=>clear hb2 d0 d1 d2 d3;go_wp2;go_ret;exact⟨by rw[HCK.out];rfl,HB2.out⟩
 | true=>
 clear d0 d1 d2 d3;obtain⟨d0,d1,d2,d3⟩:=HG2.out.four;clear hb2;go_wp2_with fail
 refine(K3.out _ HB2.out).mono ?_;rintro e w3 ⟨rfl,hb3⟩;have HB3:=Hd (HB2.out.trans (hb3.mono HB2.out.size));have HG3:=Hd (HG2.out.later hb3);cases a3 with
 | false=>clear hb3 d0 d1 d2 d3;go_wp2;go_ret;exact⟨by rw[HCK.out];rfl,HB3.out⟩
 | true=>
 clear d0 d1 d2 d3;obtain⟨d0,d1,d2,d3⟩:=HG3.out.four;clear hb3;go_wp2_with fail
 refine(K4.out _ HB3.out).mono ?_;rintro e w4 ⟨rfl,hb4⟩;have HB4:=Hd (HB3.out.trans (hb4.mono HB3.out.size));have HG4:=Hd (HG3.out.later hb4);cases a4 with
 | false=>clear hb4 d0 d1 d2 d3;go_wp2;go_ret;exact⟨by rw[HCK.out];rfl,HB4.out⟩
 | true=>
 clear d0 d1 d2 d3;obtain⟨d0,d1,d2,d3⟩:=HG4.out.four;clear hb4;go_wp2_with fail
 refine(K5.out _ HB4.out).mono ?_;rintro e w5 ⟨rfl,hb5⟩;have HB5:=Hd (HB4.out.trans (hb5.mono HB4.out.size));have HG5:=Hd (HG4.out.later hb5);cases a5 with
 | false=>clear hb5 d0 d1 d2 d3;go_wp2;go_ret;exact⟨by rw[HCK.out];rfl,HB5.out⟩
 | true=>
 clear d0 d1 d2 d3;obtain⟨d0,d1,d2,d3⟩:=HG5.out.four;clear hb5;go_wp2_with fail
 refine(K6.out _ _ HB5.out HG5.out).mono ?_;rintro e w6 ⟨rfl,hb6⟩;have HB6:=Hd (HB5.out.trans (hb6.mono HB5.out.size));have HG6:=Hd (HG5.out.later hb6);cases a6 with
 | false=>clear hb6 d0 d1 d2 d3;go_wp2;go_ret;exact⟨by rw[HCK.out];rfl,HB6.out⟩
 | true=>
 clear d0 d1 d2 d3;obtain⟨d0,d1,d2,d3⟩:=HG6.out.four;clear hb6;go_wp2_with fail
 refine(K7.out _ HB6.out).mono ?_;rintro e w7 ⟨rfl,hb7⟩;have HB7:=Hd (HB6.out.trans (hb7.mono HB6.out.size));have HG7:=Hd (HG6.out.later hb7);cases a7 with
 | false=>clear hb7 d0 d1 d2 d3;go_wp2;go_ret;exact⟨by rw[HCK.out];rfl,HB7.out⟩
 | true=>
 clear d0 d1 d2 d3;obtain⟨d0,d1,d2,d3⟩:=HG7.out.four;clear hb7;go_wp2;go_loopw [4] (fun i wr=>∃k:Nat,k≤nN∧i=.int .i64 ((nT:Int)+1+k)∧Hid (g.EachTo k)∧Hid (Below w.heap.size w wr)∧Hid (GBox wr w.heap.size (.agg #[.slice AT nT cT,.slice AN nN cN,.slice AR nR cR,.int .i64 gs]))) (fun i _=>nN+nT+2-(intOf i).toNat)
 case atStart=>exact⟨0,zeL _,by go_num,Hd (fun j hj=>absurd hj (Nat.not_lt_zero _)),HB7,HG7⟩
 case round=>
  clear d0 d1 d2 d3;obtain⟨k,hk,rfl,HE,HBR,HGR⟩:=hrel;obtain⟨d0,d1,d2,d3⟩:=HGR.out.four;by_cases hlt:k<nN
  ·have HO:=Hd (HOF.out k)
   have HX:=Hd (HE1.out k HE.out);have HY:=Hd (HE3.out k hlt);go_wp2_with fail
   refine(K8.out _ HBR.out).mono ?_;rintro e w8 ⟨rfl,hb8⟩;have HB8:=Hd (HBR.out.trans (hb8.mono HBR.out.size));have HG8:=Hd (HGR.out.later hb8);clear d0 d1 d2 d3 hb8;obtain⟨d0,d1,d2,d3⟩:=HG8.out.four;go_wp2_with fail
   refine(HO.out _ HB8.out).mono ?_;rintro e w9 ⟨A,n,c,rfl,hn1,hn2,hb9⟩;have HB9:=Hd (HB8.out.trans (hb9.mono HB8.out.size));have HG9:=Hd (HG8.out.later hb9);clear d0 d1 d2 d3 hb9;cases hq:g.R.any (Gm.left ((nT:Int)+1+k)) with
   | true=>
    have hn:=hn1 hq;have HN:=Hd (HX.out hq);clear hn1 hn2 hq;go_wp2;go_roundw
    case rel=>exact⟨k+1,by omega,by go_num,HN,HB9,HG9⟩
    case measure=>simp[intOf];omega
   | false=>have hn:=hn2 hq;have HN:=Hd (HY.out hq);subst hn;clear hn1 hn2 hq;go_wp2;go_ret;exact⟨by rw[HCK.out,HN.out];rfl,HB9.out⟩
  ·obtain rfl:k=nN:=by omega
   have HN:=Hd (HE2.out HE.out);go_wp2_with fail
   refine(K8.out _ HBR.out).mono ?_;rintro e w8 ⟨rfl,hb8⟩;have HB8:=Hd (HBR.out.trans (hb8.mono HBR.out.size));clear d0 d1 d2 d3 hb8;go_wp2;go_ret;exact⟨by rw[HCK.out,HN.out];rfl,HB8.out⟩
end
end Go.Proofs.YthaacmablcpdfaaGreatDoor
