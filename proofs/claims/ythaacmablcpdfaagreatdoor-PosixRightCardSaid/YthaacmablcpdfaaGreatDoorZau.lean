/- A map from numbers to true. What stands behind a right side's symbols. The sets of a grammar while they are made. What a list of symbols begins with. -/
import Derived.Test.YthaacmablcpdfaaGreatDoorZaq
import Derived.Test.YthaacmablcpdfaaGreatDoorZan
import Derived.Deep.RegionHeld3
import Derived.Test.YthaacmablcpdfaaGreatDoorZak
import Derived.Test.YthaacmablcpdfaaGreatDoorNm
namespace Go.Proofs.YthaacmablcpdfaaGreatDoor
open Go.RowKit
open Go.Maps (IsMap Keyed)
set_option linter.unusedVariables false
set_option maxRecDepth 100000
theorem lawIntQ:Keyed Tryz.prog 3:=Maps.int_keyed Tryz.underlying3
abbrev BMap(w:World)(mb n:Nat)(D:DataW Unit):Prop:=w.ownsMap Tryz.prog 3 (plainElem Tryz.prog 4) mb n D
def klN(i:Nat):Lit:=.int .i64 i
theorem klN_key(i:Nat):WideAt.IsKeyLit (klN i):=by unfold klN;simp[WideAt.IsKeyLit]
theorem klN_inj{i j:Nat}(h:klN i=klN j):i=j:=by unfold klN at h;simp at h;omega
def MetD(D:DataW Unit)(M:List Nat):Prop:=∀i:Nat,D.atKey (klN i) (.lit (.bool false))=.lit (.bool (decide (i∈M)))
theorem MetD.start:MetD (.map []) []:=fun i=>rfl
theorem MetD.next{D:DataW Unit}{M:List Nat}(h:MetD D M)(hm:IsMap D)(i:Nat):MetD (D.put (klN i) (.lit (.bool true))) (i::M):=by
 intro j;by_cases hj:j=i
 ·subst hj
  rw[Maps.atKey_put_same hm (klN_key j)];simp
 ·rw[Maps.atKey_put_other (fun e=>hj (klN_inj e)),h j]
  simp[hj]
theorem zeroBoolQ(w:World):(zeroValue 4).run Tryz.prog w=.ok (.bool false) w:=by kernel_rfl
theorem met_look{w:World}{mb n:Nat}{D:DataW Unit}{M:List Nat}(h:BMap w mb n D)(hM:MetD D M){i:Nat}(hi:i≤100000):(Instr.lookup 222 (.map (some mb)) (.int .i64 (i:Int)) false).run Tryz.prog w=.ok (.bool (decide (i∈M))) w:=by
 have hk:keyOf Tryz.prog 3 (.int .i64 (i:Int))=some (klN i):=Maps.keyOf_int_mk Tryz.underlying3 (WalkArith.wf_i64 (by omega));obtain⟨v,ps,h1,h2⟩:=h.lookup lawIntQ Tryz.underlying222 (zeroBoolQ w) (plainElem_bool Tryz.underlying4 false) hk;rw[hM i]at h2;rw[h1];unfold plainElem at h2;rw[Tryz.underlying4]at h2;cases v<;>simp at h2
 rw[h2.1]
theorem met_put{w:World}{mb n:Nat}{D:DataW Unit}(h:BMap w mb n D)(hn:n≤1000000){i:Nat}(hi:i≤100000) :
  ∃w',(Instr.mapUpdate 222 (.map (some mb)) (.int .i64 (i:Int)) (.bool true)).run Tryz.prog w=.ok () w'∧BMap w' mb (n+1) (D.put (klN i) (.lit (.bool true)))∧w.grownBy w' (some mb):=by
 have hk:keyOf Tryz.prog 3 (.int .i64 (i:Int))=some (klN i):=Maps.keyOf_int_mk Tryz.underlying3 (WalkArith.wf_i64 (by omega));exact h.update lawIntQ Tryz.underlying222 (by unfold maxLen;omega) hk (plainElem_bool Tryz.underlying4 true)
end Go.Proofs.YthaacmablcpdfaaGreatDoor
namespace Go.Proofs.YthaacmablcpdfaaGreatDoor
open Go.RowKit
set_option linter.unusedVariables false
set_option maxRecDepth 100000
def XP(P:List SetH)(b:Nat):Prop:=∃p∈P,b=p.wb
theorem cell_not_word{w:World}{s:SetH}{S b o:Nat}{v:Value}(h:SetAt w s S)(hc:w.cell? ⟨b,o,none⟩=some v)(hv:∀z,v ≠ .int .u64 z):b≠s.wb:=by rintro rfl;have h2:=h.words.cell o;rw[hc]at h2;unfold wordsA at h2;rw[List.getElem?_toArray,pG]at h2;obtain⟨z,_,hz⟩:=Option.map_eq_some_iff.1 h2.symm;exact hv _ hz.symm
theorem Fam.mem{w:World}{n:Nat}{P:List SetH}{C:List Nat}(h:Fam w n P C){p:SetH}(hp:p∈P):∃S,SetAt w p S:=by obtain⟨i,hi,rfl⟩:=List.mem_iff_getElem.1 hp;exact⟨_,h.at_ i _ (eG hi)⟩
theorem Fam.cell{w w':World}{n:Nat}{P:List SetH}{C:List Nat}(h:Fam w n P C)(hc:Chg (XP P) w w'){b o:Nat}{v:Value}(hb:b<w.heap.size)(hv:w.cell? ⟨b,o,none⟩=some v)(hn:∀z,v ≠ .int .u64 z):w'.cell? ⟨b,o,none⟩=some v:=by
 have hx:¬XP P b:=by rintro⟨p,hp,rfl⟩;obtain⟨S,hS⟩:=h.mem hp;exact cell_not_word hS hv hn rfl
 rw[World.cell?_of_block (w:=w) (hc.block b hb hx)];exact hv
theorem Fam.nums{w w':World}{n:Nat}{P:List SetH}{C:List Nat}(h:Fam w n P C)(hc:Chg (XP P) w w'){v:Value}{l:List Nat}(hl:Nums w v l):Nums w' v l:=by obtain⟨⟨A,c,hv,hcl⟩,hs,hro⟩:=hl;refine⟨⟨A,c,hv,fun k x hx=>?_⟩,hs,hro⟩;obtain⟨b,off,hA,hlt,hcell⟩:=hcl k x hx;exact⟨b,off,hA,ltL hlt hc.size,h.cell hc hlt hcell (fun z e=>by cases e)⟩
theorem FsAt.chgs{w w':World}{F:Fs}{g:Gz}{E n:Nat}{P:List SetH}{C:List Nat}(h:FsAt w F g E)(hf:Fam w n P C)(hc:Chg (XP P) w w')(hne:∀p∈P,F.e.wb≠p.wb):FsAt w' F g E:=by
 have hx:∀b,XP P b→∃cs,Blk w b 156 cs:=fun b hb=>by obtain⟨p,hp,rfl⟩:=hb;obtain⟨S,hS⟩:=hf.mem hp;exact⟨_,hS.words⟩
 refine⟨hc.blk h.blk ?_,h.e.chg hc ?_ ?_,h.en,h.plen,hc.own h.bv ?_,hc.own h.hv ?_,h.top⟩
 ·intro hb
  obtain⟨cs,hcs⟩:=hx _ hb;exact Blk.ne_ h.blk hcs (by decide) rfl
 ·intro hb
  obtain⟨cs,hcs⟩:=hx _ hb;exact Blk.ne_ h.e.head hcs (by decide) rfl
 ·rintro⟨p,hp,he⟩
  exact hne p hp he
 ·intro k hk hb
  obtain⟨cs,hcs⟩:=hx _ hb;exact own_blk_ne h.bv hcs (by decide) hk
 ·intro k hk hb
  obtain⟨cs,hcs⟩:=hx _ hb;exact own_blk_ne h.hv hcs (by decide) hk
theorem Chg.one{w w':World}{P:List SetH}{p:SetH}(h:Chg p.X w w')(hp:p∈P):Chg (XP P) w w':=h.mono fun b hb=>⟨p,hp,hb⟩
theorem Arr.drop{α:Type}{E:α→Value}{w:World}{b off n c:Nat}{l:List α}(h:Arr E w (.slice (some ⟨b,off,none⟩) n c) l)(k:Nat)(hk:k≤n):Arr E w (.slice (some ⟨b,off+k,none⟩) (n-k) (c-k)) (l.drop k):=by
 obtain⟨⟨A',c1,hv,hc⟩,hs,hro⟩:=h;have hnc:=(hro _ _ _ rfl).1;cases hv
 refine⟨⟨_,c-k,by rw[List.length_drop],fun i x hx=>?_⟩,by rw[List.length_drop];omega,fun _ _ _ e=>by cases e;exact⟨by omega,fun e=>by cases e⟩⟩;rw[List.getElem?_drop]at hx;obtain⟨b2,off2,hA,hlt,hcell⟩:=hc (k+i) x hx;cases hA
 exact⟨b,off+k,rfl,hlt,by rw[show off+k+i=off+(k+i) by omega];exact hcell⟩
theorem Arr.cut{α:Type}{E:α→Value}{w:World}{b off n c:Nat}{l:List α}(h:Arr E w (.slice (some ⟨b,off,none⟩) n c) l)(k:Nat)(hk:k≤n):Arr E w (.slice (if c=k then some ⟨b,off,none⟩ else some ⟨b,off+k,none⟩) (n-k) (c-k)) (l.drop k):=by
 have hnc:=(h.room _ _ _ rfl).1;split
 ·rename_i hck
  have hn:n=l.length:=by
   obtain⟨⟨A',c1,hv,-⟩,-,-⟩:=h;cases hv
   rfl
  have hl:l.drop k=[]:=List.drop_eq_nil_of_le (by omega);rw[hl,show n-k=0 by omega];exact Arr.nil w _ _ (fun e=>by cases e)
 ·exact h.drop k hk
def FruleEnd(w:World)(n:Nat)(P:List SetH)(r:List Nat×Bool)(e:Ending)(w':World):Prop:=e=.returned (.bool r.2)∧Fam w' n P r.1∧Chg (XP P) w w'
set_option maxHeartbeats 6400000 in
theorem frule_any{w:World}{F:Fs}{g:Gz}{E:Nat}{C:List Nat}(h:FsAt w F g E)(hf:Fam w (g.nt+1) F.P C)(hne:∀p∈F.P,F.e.wb≠p.wb){rv:Value}{left:Nat}{l:List Nat}(hl:Nums w rv l)(hx:∀x∈l,x≤g.top)(hleft:left≤g.top) :
  Calls Tryz.prog 198 #[.pointer (some ⟨F.q,0,none⟩),.agg #[.int .i64 left,rv]] w (FruleEnd w (g.nt+1) F.P (behRule g E (g.top+1) left l C false)):=by
 have HFS:Hid (∀y,Chg (XP F.P) w y→FsAt y F g E):=Hd (fun y hy=>h.chgs hf hy hne);have HNL:Hid (∀y,Chg (XP F.P) w y→Nums y rv l):=Hd (fun y hy=>hf.nums hy hl);have HX:=Hd hx;have HF0:=Hd hf;have HNE:=Hd hne;have htop:=h.top;obtain⟨bg,bc,hg,hcc,-,hhv,-,hhc⟩:=h.open_;have hPl:=h.plen;obtain⟨⟨A,c,rfl,-⟩,hs,hro⟩:=id hl;have hnc:=(hro _ _ _ rfl).1;have HRB:=Hd (Blk.new w 65 #[.int .i64 left,.slice A l.length c]);have HB0:Hid (Chg (XP F.P) w (w.alloc (.cells #[.int .i64 left,.slice A l.length c] 65))):=Hd ((Chg.refl _ w).alloc _);have HRC:Hid (∀y,Chg (XP F.P) (w.alloc (.cells #[.int .i64 left,.slice A l.length c] 65)) y→y.cell? ⟨w.heap.size,0,none⟩=some (.int .i64 left)∧y.cell? ⟨w.heap.size,1,none⟩=some (.slice A l.length c)):=Hd (fun y hy=>by
  have hb:=hy.blk HRB.out (by rintro⟨p,hp,e⟩;have:=(HF0.out.lt hp).2;omega)
  exact⟨hb.cell 0,hb.cell 1⟩)
 have HFW:=Hd (hf.later (below_alloc w (.cells #[.int .i64 left,.slice A l.length c] 65)));clear hx hf hne h hl hro;unfold FruleEnd;generalize hR:behRule g E (g.top+1) left l C false=R;have HR:=Hd hR;clear hR;obtain⟨C',m'⟩:=R;simp only;go_enter Tryz.func198,Tryz.ntmps198
 go_wp2_with fail
 generalize w.alloc (.cells #[.int .i64 left,.slice A l.length c] 65)=W0 at *;go_loopw [5,13] (fun mo ii wr=>∃(j:Nat) (Cj:List Nat) (m:Bool),j≤l.length∧ii=.int .i64 j∧mo=.bool m∧Hid (Fam wr (g.nt+1) F.P Cj)∧Hid (Chg (XP F.P) W0 wr)∧Hid (behRule g E (g.top+1) left (l.drop j) Cj m=(C',m'))) (fun _ ii _=>l.length-(intOf ii).toNat)
 case atStart=>exact⟨0,C,false,zeL _,rfl,rfl,HFW,Hd (Chg.refl _ _),HR⟩
 case round=>
  obtain⟨j,Cj,m,hj,rfl,rfl,HFj,HCH,HRj⟩:=hrel;by_cases hlt:j<l.length
  ·have hxj:=eG hlt
   generalize l[j]=x at hxj;have hxt:=HX.out x (mG hxj);have hdrop:=drop_more hxj;rw[hdrop]at HRj;have HCW:=Hd (HB0.out.next HCH.out);obtain⟨b,off,rfl,hlt0,hcell⟩:∃b off,A=some ⟨b,off,none⟩∧b<wr.heap.size∧wr.cell? ⟨b,off+j,none⟩=some (.int .i64 x):=by
    obtain⟨⟨A',c',e,hc⟩,-,-⟩:=HNL.out wr HCW.out;cases e
    exact hc j x hxj
   obtain⟨q0,q1,-,-,q4⟩:=(HFS.out wr HCW.out).cells;obtain⟨r0,r1⟩:=HRC.out wr HCH.out;have HNZ:Hid (∀y,Calls Tryz.prog 216 #[.agg #[.int .i64 g.nt,.int .i64 g.top],.int .i64 x] y (Says y (g.non x))):=Hd (fun y=>nonz_any y g.nt g.top x);clear hxj hdrop;cases hnon:g.non x with
   | false=>
    rw[hnon]at HNZ;have HRn:Hid (behRule g E (g.top+1) left (l.drop (j+1)) Cj m=(C',m')):=Hd (by have:=HRj.out;rw[behRule,if_neg (by simp[hnon])]at this;exact this);clear HRj hnon;go_wp2_with (go_at_call 216;refine(HNZ.out _).mono ?_;rintro e w1 ⟨rfl,hb1⟩;have HB1:=Hd hb1;clear hb1)
    go_roundw
    case rel=>exact⟨j+1,Cj,m,by omega,by go_num,rfl,Hd (HFj.out.later HB1.out),Hd (HCH.out.next (Chg.of_below HB1.out)),HRn⟩
    case measure=>simp[intOf];omega
   | true=>
    rw[hnon]at HNZ;obtain⟨p,hp⟩:∃p,F.P[g.top+1+x]?=some p:=⟨_,eG (by omega)⟩
    obtain⟨pl,hpl⟩:∃p,F.P[g.top+1+left]?=some p:=⟨_,eG (by omega)⟩
    have HP:=Hd hp;have HPL:=Hd hpl;obtain⟨sa,hsa⟩:∃sa,(if c=j+1 then some (⟨b,off,none⟩:Addr) else some ⟨b,off+(j+1),none⟩)=sa:=⟨_,rfl⟩
    have HLN:Hid (∀y,Chg (XP F.P) w y→Fam y (g.nt+1) F.P Cj→Calls Tryz.prog 197 #[.pointer (some ⟨F.q,0,none⟩),.pointer (some ⟨p.h,0,none⟩),.slice sa (l.length-(j+1)) (c-(j+1))] y (LineEnd y (g.nt+1) F.P p (lineB E (g.top+1+x) (l.drop (j+1)) Cj false))):=Hd (fun y hy hfy=>line_any (HFS.out y hy) hfy (List.prefix_refl _) HP.out (HNE.out p (mG HP.out)) (by have:=(HNL.out y hy).cut (j+1) (by omega);rwa [hsa]at this) (fun z hz=>HX.out z (List.mem_of_mem_drop hz)))
    have HS:Hid (∀y,Chg (XP F.P) W0 y→y.cell? ⟨F.q,4,none⟩=some (.slice (some ⟨hg,0,none⟩) (g.top+1) hcc)∧y.cell? ⟨hg,x,none⟩=some (.pointer (some ⟨p.h,0,none⟩))∧y.cell? ⟨w.heap.size,1,none⟩=some (.slice (some ⟨b,off,none⟩) l.length c)):=Hd (fun y hy=>by obtain⟨-,-,-,-,z4⟩:=(HFS.out y (HB0.out.next hy)).cells;rw[hhv]at z4;exact⟨z4,(HFS.out y (HB0.out.next hy)).behind_ hhv HP.out hxt,(HRC.out y hy).2⟩)
    have HS2:Hid (∀y,Chg (XP F.P) W0 y→y.cell? ⟨F.q,4,none⟩=some (.slice (some ⟨hg,0,none⟩) (g.top+1) hcc)∧y.cell? ⟨hg,x,none⟩=some (.pointer (some ⟨p.h,0,none⟩))∧y.cell? ⟨hg,left,none⟩=some (.pointer (some ⟨pl.h,0,none⟩))∧y.cell? ⟨w.heap.size,0,none⟩=some (.int .i64 left)):=Hd (fun y hy=>by obtain⟨-,-,-,-,z4⟩:=(HFS.out y (HB0.out.next hy)).cells;rw[hhv]at z4;exact⟨z4,(HFS.out y (HB0.out.next hy)).behind_ hhv HP.out hxt,(HFS.out y (HB0.out.next hy)).behind_ hhv HPL.out hleft,(HRC.out y hy).1⟩)
    have HRT:Hid (∀C1 m1,lineB E (g.top+1+x) (l.drop (j+1)) Cj false=(C1,m1,true)→behRule g E (g.top+1) left (l.drop (j+1)) (C1.set (g.top+1+x) (C1.getD (g.top+1+x) 0|||C1.getD (g.top+1+left) 0)) (m||((C1.getD (g.top+1+x) 0|||C1.getD (g.top+1+left) 0) != C1.getD (g.top+1+x) 0||m1))=(C',m')):=Hd (fun C1 m1 h1=>by have:=HRj.out;rw[behRule,if_pos hnon,h1]at this;exact this);have HRF:Hid (∀C1 m1,lineB E (g.top+1+x) (l.drop (j+1)) Cj false=(C1,m1,false)→behRule g E (g.top+1) left (l.drop (j+1)) C1 (m||m1)=(C',m')):=Hd (fun C1 m1 h1=>by have:=HRj.out;rw[behRule,if_pos hnon,h1]at this;exact this)
    clear HRj hnon hp hpl;generalize lineB E (g.top+1+x) (l.drop (j+1)) Cj false=R1 at *;obtain⟨C1,m1,all1⟩:=R1;go_upto_region 6 with(go_at_call 216;refine(HNZ.out _).mono ?_;rintro e w1 ⟨rfl,hb1⟩;have HB1:=Hd hb1;clear hb1 q0 q1 q4 r0 r1)
    have HC1:=Hd (HCH.out.next (Chg.of_below HB1.out));have HF1:=Hd (HFj.out.later HB1.out);obtain⟨s0,s1,s2⟩:=HS.out w1 HC1.out;have i1:(0:Int)≤(x:Int):=by omega
    have i2':x<g.top+1:=by omega
    have i3:(0:Int)≤(j:Int)+1:=by omega
    have i4:(j:Int)+1≤(l.length:Int):=by omega
    have i5:(l.length:Int)≤(c:Int):=by omega
    have i6:IntKind.i64.wrap ((j:Int)+1)=(j:Int)+1:=by rw[IntKind.wrap_i64];omega
    generalize htp:g.top+1=tp at *;have HTP:=Hd htp;have i2:(x:Int)<(tp:Int):=by omega
    clear htp;have HSY:Hid (∀y,Below w1.heap.size w1 y→y.cell? ⟨F.q,4,none⟩=some (.slice (some ⟨hg,0,none⟩) tp hcc)∧y.cell? ⟨hg,x,none⟩=some (.pointer (some ⟨p.h,0,none⟩))∧y.cell? ⟨w.heap.size,1,none⟩=some (.slice (some ⟨b,off,none⟩) l.length c)):=Hd (fun y hy=>HS.out y (HC1.out.next (Chg.of_below hy)));have HLY:Hid (∀y,Below w1.heap.size w1 y→Calls Tryz.prog 197 #[.pointer (some ⟨F.q,0,none⟩),.pointer (some ⟨p.h,0,none⟩),.slice sa (l.length-(j+1)) (c-(j+1))] y fun e w'=>e=.returned (.tuple #[.bool m1,.bool all1])∧Fam w' (g.nt+1) F.P C1∧Chg (XP F.P) W0 w'):=Hd (fun y hy=>by refine(HLN.out y (HB0.out.next (HC1.out.next (Chg.of_below hy))) (HF1.out.later hy)).mono ?_;rintro e w' ⟨he,h1,h2⟩;exact⟨he,h1,(HC1.out.next (Chg.of_below hy)).next (h2.one (mG HP.out))⟩)
    go_region_held3 (fun y=>y.cell? ⟨F.q,4,none⟩=some (.slice (some ⟨hg,0,none⟩) tp hcc)∧y.cell? ⟨hg,x,none⟩=some (.pointer (some ⟨p.h,0,none⟩))∧y.cell? ⟨w.heap.size,1,none⟩=some (.slice (some ⟨b,off,none⟩) l.length c))
     (first|exact HSY.out _ ⟨rfl,rfl,rfl,leR _,fun _ _=>rfl⟩|exact HK.out _ ⟨rfl,rfl,rfl,leR _,fun _ _=>rfl⟩)
     (first|(go_at_call 197;refine(HLY.out w1.drew ⟨rfl,rfl,rfl,leR _,fun _ _=>rfl⟩).mono ?_;rintro e w2 ⟨rfl,hf2,hc2⟩;have HF2:=Hd hf2;have HC2:=Hd hc2;have HK:=Hd (fun(y:World) (hy:Below w2.heap.size w2 y)=>HS.out y (hc2.next (Chg.of_below hy)));clear hf2 hc2))
    clear HSY HLY HK hsa s0 s1 s2 i3 i4 i5 i6;cases all1 with
    | false=>
     have HRn:=Hd (HRF.out C1 m1 rfl);rw[←HTP.out]at HRn;clear HRT HRF;cases m<;>cases m1
     all_goals go_wp2_with fail
     all_goals go_roundw
     all_goals first
      | exact⟨j+1,C1,false,by omega,by go_num,rfl,HF2,HC2,HRn⟩
      | exact⟨j+1,C1,true,by omega,by go_num,rfl,HF2,HC2,HRn⟩
      | (simp[intOf];omega)
    | true=>
     have HRn:=Hd (HRT.out C1 m1 rfl);have HOR:Hid (∀y,Chg (XP F.P) W0 y→Fam y (g.nt+1) F.P C1→Calls Tryz.prog 157 #[.pointer (some ⟨p.h,0,none⟩),.pointer (some ⟨pl.h,0,none⟩)] y fun e w'=>e=.returned (.bool (C1.getD (tp+x) 0|||C1.getD (tp+left) 0 != C1.getD (tp+x) 0))∧Fam w' (g.nt+1) F.P (C1.set (tp+x) (C1.getD (tp+x) 0|||C1.getD (tp+left) 0))∧Chg (XP F.P) W0 w'):=Hd (fun y hc hy=>by
      refine(orp_any (hy.at_ _ p HP.out) (hy.at_ _ pl HPL.out) ?_).mono ?_
      ·rw[hy.room p (mG HP.out),hy.room pl (mG HPL.out)]
      ·rintro e w' ⟨he,h1,h2⟩
       exact⟨he,hy.turn HP.out h1 h2,hc.next (h2.one (mG HP.out))⟩)
     clear HRT HRF;generalize (C1.getD (tp+x) 0|||C1.getD (tp+left) 0 != C1.getD (tp+x) 0)=b2 at *;generalize C1.set (tp+x) (C1.getD (tp+x) 0|||C1.getD (tp+left) 0)=C2 at *;obtain⟨s0,s1,s2,s3⟩:=HS2.out w2 HC2.out;have i7:(left:Int)<(tp:Int):=by have:=HTP.out;omega
     have i8:(0:Int)≤(left:Int):=by omega
     rw[←HTP.out]at HRn;cases b2
     ·go_upto_region 8 with fail
      have HSY:Hid (∀y,Below w2.heap.size w2 y→y.cell? ⟨F.q,4,none⟩=some (.slice (some ⟨hg,0,none⟩) tp hcc)∧y.cell? ⟨hg,x,none⟩=some (.pointer (some ⟨p.h,0,none⟩))∧y.cell? ⟨hg,left,none⟩=some (.pointer (some ⟨pl.h,0,none⟩))∧y.cell? ⟨w.heap.size,0,none⟩=some (.int .i64 left)):=Hd (fun y hy=>HS2.out y (HC2.out.next (Chg.of_below hy)));have HOY:=Hd (HOR.out w2.drew HC2.out.drew (HF2.out.later ⟨rfl,rfl,rfl,leR _,fun _ _=>rfl⟩))
      go_region_held3 (fun y=>y.cell? ⟨F.q,4,none⟩=some (.slice (some ⟨hg,0,none⟩) tp hcc)∧y.cell? ⟨hg,x,none⟩=some (.pointer (some ⟨p.h,0,none⟩))∧y.cell? ⟨hg,left,none⟩=some (.pointer (some ⟨pl.h,0,none⟩))∧y.cell? ⟨w.heap.size,0,none⟩=some (.int .i64 left))
       (first|exact HSY.out _ ⟨rfl,rfl,rfl,leR _,fun _ _=>rfl⟩|exact HK.out _ ⟨rfl,rfl,rfl,leR _,fun _ _=>rfl⟩)
       (first|(go_at_call 157;refine HOY.out.mono ?_;rintro e w3 ⟨rfl,hf3,hc3⟩;have HF3:=Hd hf3;have HC3:=Hd hc3;have HK:=Hd (fun(y:World) (hy:Below w3.heap.size w3 y)=>HS2.out y (hc3.next (Chg.of_below hy)));clear hf3 hc3))
      cases m<;>(
      go_wp2_with fail
      go_roundw
      all_goals first
       | exact⟨j+1,C2,_,by omega,by go_num,rfl,HF3,HC3,HRn⟩
       | (simp[intOf];omega))
     ·go_upto_region 8 with fail
      have HOY:=Hd (HOR.out w2.drew HC2.out.drew (HF2.out.later ⟨rfl,rfl,rfl,leR _,fun _ _=>rfl⟩));first
       | (go_region_law (first|(go_simp;go_at_call 157;refine HOY.out.mono ?_;rintro e w3 ⟨rfl,hf3,hc3⟩;have HF3:=Hd hf3;have HC3:=Hd hc3;clear hf3 hc3)))
       | fail
      all_goals (
       cases m<;>(
       go_wp2_with fail
       go_roundw
       all_goals first
        | exact⟨j+1,C2,_,by omega,by go_num,rfl,HF3,HC3,HRn⟩
        | (simp[intOf];omega)))
  ·obtain rfl:j=l.length:=by omega
   have e:=HRj.out;rw[List.drop_length,behRule]at e;cases e
   go_wp2_with fail
   go_ret;exact⟨rfl,HFj.out,HB0.out.next HCH.out⟩
structure FStat(w0 wr:World)(F:Fs)(g:Gz)(E:Nat)(C:List Nat):Prop where
 at_:FsAt wr F g E
 fam:Fam wr (g.nt+1) F.P C
 ne:∀p∈F.P,F.e.wb≠p.wb
 new:w0.heap.size≤F.q∧w0.heap.size≤F.e.h∧w0.heap.size≤F.e.wb∧∀p∈F.P,w0.heap.size≤p.h∧w0.heap.size≤p.wb
 below:Below w0.heap.size w0 wr
theorem FStat.later{w0 w w':World}{F:Fs}{g:Gz}{E:Nat}{C:List Nat}(h:FStat w0 w F g E C)(hb:Below w.heap.size w w'):FStat w0 w' F g E C:=
 ⟨h.at_.later hb,h.fam.later hb,h.ne,h.new,h.below.trans (hb.mono h.below.size)⟩
theorem FStat.turn{w0 w w':World}{F:Fs}{g:Gz}{E:Nat}{C C':List Nat}(h:FStat w0 w F g E C)(hc:Chg (XP F.P) w w')(hf:Fam w' (g.nt+1) F.P C'):FStat w0 w' F g E C':=
 ⟨h.at_.chgs h.fam hc h.ne,hf,h.ne,h.new,h.below.trans (hc.below h.below.size (fun k hk hx=>by obtain⟨p,hp,rfl⟩:=hx;have:=(h.new.2.2.2 p hp).2;omega))⟩
theorem FStat.empty{w0 w w':World}{F:Fs}{g:Gz}{E E':Nat}{C:List Nat}(h:FStat w0 w F g E C)(hc:Chg F.e.X w w')(he:SetAt w' F.e E'):FStat w0 w' F g E' C:=by
 refine⟨⟨hc.blk h.at_.blk ?_,he,h.at_.en,h.at_.plen,hc.own h.at_.bv ?_,hc.own h.at_.hv ?_,h.at_.top⟩,h.fam.chg hc ?_,h.ne,h.new,h.below.trans (hc.below h.below.size ?_)⟩
 ·exact Blk.ne_ h.at_.blk h.at_.e.words (by decide)
 ·exact fun k hk e=>own_blk_ne h.at_.bv h.at_.e.words (by decide) (by rw[hk,show k=F.e.wb from e])
 ·exact fun k hk e=>own_blk_ne h.at_.hv h.at_.e.words (by decide) (by rw[hk,show k=F.e.wb from e])
 ·intro p hp
  obtain⟨S,hS⟩:=h.fam.mem hp;exact⟨hS.head_ne h.at_.e,fun e=>h.ne p hp (show F.e.wb=p.wb from e.symm)⟩
 ·intro k hk e
  have:=h.new.2.2.1;have e2:k=F.e.wb:=e;omega
theorem Fam.append{w:World}{n:Nat}{P Q:List SetH}{C D:List Nat}(h:Fam w n P C)(k:Fam w n Q D)(hd:∀p∈P,∀q∈Q,p.wb≠q.wb):Fam w n (P++Q) (C++D):=by
 refine⟨by simp[h.len,k.len],?_,?_,?_⟩
 ·intro p hp
  rcases mA.1 hp with hp|hp
  ·exact h.room p hp
  ·exact k.room p hp
 ·intro i p hp
  by_cases hi:i<P.length
  ·rw[gL hi]at hp
   rw[dG,gL (by rw[←h.len];exact hi),←dG];exact h.at_ i p hp
  ·rw[List.getElem?_append_right (by omega)]at hp
   rw[dG,List.getElem?_append_right (by rw[←h.len];omega),←dG,←h.len];exact k.at_ _ p hp
 ·rw[mpA,List.nodup_append]
  refine⟨h.apart,k.apart,?_⟩;intro a ha b hb;obtain⟨p,hp,rfl⟩:=List.mem_map.1 ha;obtain⟨q,hq,rfl⟩:=List.mem_map.1 hb;exact hd p hp q hq
structure FreshAt(a b:Nat)(w:World)(n k:Nat)(o:Value)(P:List SetH):Prop where
 row:∃A c,o=.slice A k c
 len:P.length=k
 pr:PRow w 0 o P
 fam:Fam w n P (List.replicate k 0)
 btw:∀p∈P,(a≤p.h∧p.h<b)∧(a≤p.wb∧p.wb<b)
theorem Fresh.at_{w wr:World}{n k:Nat}{o:Value}(h:Fresh w n k o wr):∃P,FreshAt w.heap.size wr.heap.size wr n k o P:=by obtain⟨A,c,P,rfl,hl,hr,hf,hn⟩:=h.row;exact⟨P,⟨_,_,rfl⟩,hl,own_base hr (zeL _),hf,fun p hp=>⟨⟨(hn p hp).1,(hf.lt hp).1⟩,(hn p hp).2,(hf.lt hp).2⟩⟩
theorem FreshAt.later{a b:Nat}{w w':World}{n k:Nat}{o:Value}{P:List SetH}(h:FreshAt a b w n k o P)(hb:Below w.heap.size w w'):FreshAt a b w' n k o P:=
 ⟨h.row,h.len,own_below h.pr hb,h.fam.later hb,h.btw⟩
theorem FStat.make{w0 wx:World}{g:Gz}{e:SetH}{bv hv:Value}{q a1 b1 a2 b2:Nat}{P1 P2:List SetH}(hblk:Blk wx q 279 #[.int .i64 g.nt,.int .i64 g.top,e.v,bv,hv])(he:SetAt wx e 0)(hen:e.n=g.top+1)(ht:g.top≤1000)
  (h1:FreshAt a1 b1 wx (g.nt+1) (g.top+1) bv P1) (h2:FreshAt a2 b2 wx (g.nt+1) (g.top+1) hv P2) (hb:Below w0.heap.size w0 wx) (d12:b1≤a2∨b2≤a1) (de1:e.wb<a1∨b1≤e.wb) (de2:e.wb<a2∨b2≤e.wb)
  (n1:w0.heap.size≤q∧w0.heap.size≤e.h∧w0.heap.size≤e.wb∧w0.heap.size≤a1∧w0.heap.size≤a2):FStat w0 wx ⟨q,e,P1++P2,bv,hv⟩ g 0 (List.replicate (2*(g.top+1)) 0):=by
 have hl1:=h1.len;have hl2:=h2.len;refine⟨⟨hblk,he,hen,by simp[hl1,hl2];omega,?_,?_,ht⟩,?_,?_,⟨n1.1,n1.2.1,n1.2.2.1,?_⟩,hb⟩
 ·simp only
  rw[List.take_left' hl1];exact h1.pr
 ·simp only
  rw[List.drop_left' hl1];exact h2.pr
 ·rw[show 2*(g.top+1)=(g.top+1)+(g.top+1) by omega,←List.replicate_append_replicate]
  refine h1.fam.append h2.fam ?_;intro p hp r hr;have x1:=(h1.btw p hp).2;have x2:=(h2.btw r hr).2;omega
 ·intro p hp
  rcases mA.1 hp with hp|hp
  ·have:=(h1.btw p hp).2
   simp only;omega
  ·have:=(h2.btw p hp).2
   simp only;omega
 ·intro p hp
  rcases mA.1 hp with hp|hp
  ·have:=h1.btw p hp
   omega
  ·have:=h2.btw p hp
   omega
def XS(F:Fs)(b:Nat):Prop:=b=F.e.wb∨XP F.P b
theorem FStat.no{w0 w:World}{F:Fs}{g:Gz}{E:Nat}{C:List Nat}(h:FStat w0 w F g E C){b:Nat}{t:TypeId}{cs:Array Value}(hb:Blk w b t cs)(ht:t≠156):¬XS F b:=by
 rintro(rfl|⟨p,hp,rfl⟩)
 ·exact Blk.ne_ hb h.at_.e.words ht rfl
 ·obtain⟨S,hS⟩:=h.fam.mem hp
  exact Blk.ne_ hb hS.words ht rfl
theorem FStat.cell{w0 w w':World}{F:Fs}{g:Gz}{E:Nat}{C:List Nat}(h:FStat w0 w F g E C)(hc:Chg (XS F) w w'){b o:Nat}{v:Value}(hb:b<w.heap.size)(hv:w.cell? ⟨b,o,none⟩=some v)(hn:∀z,v ≠ .int .u64 z):w'.cell? ⟨b,o,none⟩=some v:=by
 have hx:¬XS F b:=by
  rintro(rfl|⟨p,hp,rfl⟩)
  ·exact cell_not_word h.at_.e hv hn rfl
  ·obtain⟨S,hS⟩:=h.fam.mem hp
   exact cell_not_word hS hv hn rfl
 rw[World.cell?_of_block (w:=w) (hc.block b hb hx)];exact hv
theorem block_of_cell{w:World}{b o:Nat}{v:Value}(h:w.cell? ⟨b,o,none⟩=some v):b<w.heap.size:=World.block_lt_of_cell? w _ h
theorem FStat.put{w0 w:World}{F:Fs}{g:Gz}{E:Nat}{C:List Nat}(h:FStat w0 w F g E C){i x:Nat}{p:SetH}(hp:F.P[i]?=some p)(hx:x<g.nt+1) :
  Calls Tryz.prog 86 #[.pointer (some ⟨p.h,0,none⟩),.int .i64 x] w fun e w'=>(∃b,e=.returned (.bool b))∧FStat w0 w' F g E (C.set i (C.getD i 0|||2 ^ x))∧Chg (XS F) w w':=by
 have hm:=mG hp;refine(put_any (h.fam.at_ i p hp) (by rw[h.fam.room p hm];exact hx)).mono ?_;rintro e w' ⟨he,hs,hc⟩;exact⟨⟨_,he⟩,h.turn (hc.one hm) (h.fam.turn hp hs hc),(hc.one hm).mono fun b hb=>.inr hb⟩
theorem FStat.putE{w0 w:World}{F:Fs}{g:Gz}{E:Nat}{C:List Nat}(h:FStat w0 w F g E C){x:Nat}(hx:x≤g.top) :
  Calls Tryz.prog 86 #[.pointer (some ⟨F.e.h,0,none⟩),.int .i64 x] w fun e w'=>e=.returned (.bool (!E.testBit x))∧FStat w0 w' F g (E|||2 ^ x) C∧Chg (XS F) w w':=by
 refine(put_any h.at_.e (i:=x) (by rw[h.at_.en];omega)).mono ?_;rintro e w' ⟨he,hs,hc⟩;exact⟨he,h.empty hc hs,hc.mono fun b hb=>.inl hb⟩
theorem FStat.line{w0 w:World}{F:Fs}{g:Gz}{E:Nat}{C:List Nat}(h:FStat w0 w F g E C){i:Nat}{p:SetH}(hp:F.P[i]?=some p){lv:Value}{l:List Nat}(hl:Nums w lv l)(hx:∀x∈l,x≤g.top) :
  Calls Tryz.prog 197 #[.pointer (some ⟨F.q,0,none⟩),.pointer (some ⟨p.h,0,none⟩),lv] w fun e w'=>e=.returned (.tuple #[.bool (lineB E i l C false).2.1,.bool (lineB E i l C false).2.2])∧FStat w0 w' F g E (lineB E i l C false).1∧Chg (XS F) w w':=by
 have hm:=mG hp;refine(line_any h.at_ h.fam (List.prefix_refl _) hp (h.ne p hm) hl hx).mono ?_;rintro e w' ⟨he,hf,hc⟩;exact⟨he,h.turn (hc.one hm) hf,(hc.one hm).mono fun b hb=>.inr hb⟩
theorem FStat.rule{w0 w:World}{F:Fs}{g:Gz}{E:Nat}{C:List Nat}(h:FStat w0 w F g E C){rv:Value}{left:Nat}{l:List Nat}(hl:Nums w rv l)(hx:∀x∈l,x≤g.top)(hleft:left≤g.top) :
  Calls Tryz.prog 198 #[.pointer (some ⟨F.q,0,none⟩),.agg #[.int .i64 left,rv]] w fun e w'=>e=.returned (.bool (behRule g E (g.top+1) left l C false).2)∧FStat w0 w' F g E (behRule g E (g.top+1) left l C false).1∧Chg (XS F) w w':=by
 refine(frule_any h.at_ h.fam h.ne hl hx hleft).mono ?_;rintro e w' ⟨he,hf,hc⟩;exact⟨he,h.turn hc hf,hc.mono fun b hb=>.inr hb⟩
def begTo(g:Gz)(j:Nat):List Nat:=(List.range (g.top+1)).map (fun x=>if x<j then 2 ^ x else 0)++List.replicate (g.top+1) 0
theorem begTo_zero(g:Gz):begTo g 0=List.replicate (2*(g.top+1)) 0:=by
 unfold begTo;have e:List.replicate (2*(g.top+1)) 0=List.replicate (g.top+1) 0++List.replicate (g.top+1) 0:=by rw[List.replicate_append_replicate];congr 1;omega
 rw[e];congr 1;refine List.eq_replicate_iff.2 ⟨by simp,?_⟩;intro b hb;obtain⟨x,hx,rfl⟩:=List.mem_map.1 hb;rw[if_neg (Nat.not_lt_zero _)]
theorem begTo_all(g:Gz):begTo g (g.nt+1)=begStart g:=by
 unfold begTo begStart;congr 1;apply List.map_congr_left;intro x hx;by_cases h:x≤g.nt
 ·rw[if_pos (by omega),if_pos h]
 ·rw[if_neg (by omega),if_neg h]
theorem begTo_next{g:Gz}{j:Nat}(hj:j≤g.top):(begTo g j).set j ((begTo g j).getD j 0|||2 ^ j)=begTo g (j+1):=by
 have e:(begTo g j).getD j 0=0:=by unfold begTo;rw[dG,gL (by simp;omega),pG,List.getElem?_range (by omega)];simp
 rw[e,Nat.zero_or];unfold begTo;rw[List.set_append_left _ _ (by simp;omega)];congr 1;apply List.ext_getElem
 ·simp
 ·intro i h1 h2
  rw[List.getElem_set];simp only[List.getElem_map,List.getElem_range];split
  ·rename_i hi
   rw[if_pos (by omega),hi]
  ·rename_i hi
   by_cases hij:i<j
   ·rw[if_pos hij,if_pos (by omega)]
   ·rw[if_neg hij,if_neg (by omega)]
theorem line_out{w0 w w1:World}{F:Fs}{g:Gz}{E:Nat}{C:List Nat}(h:FStat w0 w F g E C){t:SetH}(hb:Below w.heap.size w w1)(ht:SetAt w1 t 0)(hn:t.n=g.nt+1)(hlt:w.heap.size≤t.wb){lv:Value}{l:List Nat}(hl:Nums w1 lv l)(hx:∀x∈l,x≤g.top)(hpl:F.P.length=C.length) :
  Calls Tryz.prog 197 #[.pointer (some ⟨F.q,0,none⟩),.pointer (some ⟨t.h,0,none⟩),lv] w1 fun e w'=>(∃m,e=.returned (.tuple #[.bool m,.bool (lineO E C l 0).2]))∧SetAt w' t (lineO E C l 0).1∧Chg t.X w1 w':=by
 have hf:=(h.fam.push hb ht hn hlt)
 have hpl2:=h.at_.plen;have hp:(F.P++[t])[C.length]?=some t:=by rw[←hpl];simp
 have hne:F.e.wb≠t.wb:=by have:=h.at_.e.words.lt;omega
 have hc:=line_any (h.at_.later hb) hf ⟨[t],rfl⟩ hp hne hl hx;obtain⟨m',hm⟩:=lineB_out (E:=E) (C:=C) l 0 false (fun x hx2=>by have:=hx x hx2;omega);rw[hm]at hc;refine hc.mono ?_;rintro e w' ⟨he,hf2,hch⟩;refine⟨⟨m',he⟩,?_,hch⟩;have:=hf2.at_ C.length t hp;simpa using this
theorem fline_any{w0 w:World}{F:Fs}{g:Gz}{E:Nat}{C:List Nat}(h:FStat w0 w F g E C){lv:Value}{l:List Nat}(hl:Nums w lv l)(hx:∀x∈l,x≤g.top)(hnt:g.nt≤120) :
  Calls Tryz.prog 151 #[.pointer (some ⟨F.q,0,none⟩),lv] w fun e w'=>∃A c,e=.returned (.tuple #[.slice A (bitsL (g.nt+1) (lineO E C l 0).1).length c,.bool (lineO E C l 0).2])∧Nums w' (.slice A (bitsL (g.nt+1) (lineO E C l 0).1).length c) (bitsL (g.nt+1) (lineO E C l 0).1)∧Below w.heap.size w w':=by
 have HS:=Hd h;have HNW:Hid (Calls Tryz.prog 84 #[.int .i64 ((g.nt:Int)+1)] w fun e w'=>e=.returned (.pointer (some ⟨w.heap.size+1,0,none⟩))∧SetAt w' ⟨w.heap.size+1,w.heap.size,g.nt+1⟩ 0∧Below w.heap.size w w'):=Hd (new_any (w:=w) (n:=g.nt+1) (by omega) (by omega));have HLN:Hid (∀w1,Below w.heap.size w w1→SetAt w1 ⟨w.heap.size+1,w.heap.size,g.nt+1⟩ 0→Calls Tryz.prog 197 #[.pointer (some ⟨F.q,0,none⟩),.pointer (some ⟨w.heap.size+1,0,none⟩),lv] w1 fun e w'=>(∃m,e=.returned (.tuple #[.bool m,.bool (lineO E C l 0).2]))∧SetAt w' ⟨w.heap.size+1,w.heap.size,g.nt+1⟩ (lineO E C l 0).1∧Below w.heap.size w w'):=Hd (fun w1 hb ht=>by refine(line_out h hb ht rfl (leR _) (hl.later hb) hx h.fam.len).mono ?_;rintro e w' ⟨he,hs,hc⟩;exact⟨he,hs,hb.trans (hc.below hb.size (fun k hk e=>by have e2:k=w.heap.size:=e;omega))⟩)
 obtain⟨q0,-,-,-,-⟩:=h.at_.cells;have hb0:=bitsL_len (g.nt+1) (lineO E C l 0).1;obtain⟨⟨Al,cl,rfl,-⟩,-,-⟩:=id hl;clear h hl;go_enter Tryz.func151,Tryz.ntmps151
 go_wp2_with (first
  | (
   go_at_call 84;refine HNW.out.mono ?_;rintro e w1 ⟨rfl,hs,hb⟩
   have HS1:=Hd hs;have HB1:=Hd hb;clear hs hb)
  | (
   go_at_call 197;refine(HLN.out _ HB1.out HS1.out).mono ?_;rintro e w2 ⟨⟨m,rfl⟩,hs,hb⟩
   have HS2:=Hd hs;have HB2:=Hd hb;clear hs hb)
  | (
   go_at_call 159;refine(list_any HS2.out).mono ?_;rintro e w3 ⟨o,rfl,A,c,rfl,hr,hb⟩
   have HR:=Hd hr;have HB3:=Hd (HB2.out.trans (hb.mono HB2.out.size));clear hr hb))
 go_ret2
 have hrow:=HR.out;simp only[lM]at hrow;refine⟨A,c,by simp,nums_own hrow (by omega),HB3.out⟩
end Go.Proofs.YthaacmablcpdfaaGreatDoor
