/- Ordered. Two rows of texts. No name stands twice. Check. A grammar of the program's. Sets of numbers. -/
import Derived.Test.YtlogpnoioimhjaaGreatDoorXad
import Derived.Lib.AppendZeros
import Derived.Maps.Own
import Derived.Maps.OwnOps
import Derived.Maps.OwnSet
import Derived.Maps.Views
import Derived.StringKeys
import Derived.Test.YtlogpnoioimhjaaGreatDoorXac
import Derived.Laws.CopyRow
import Derived.Laws.CopyOwn
import Derived.Test.YtlogpnoioimhjaaGreatDoorXnm
set_option linter.all false
set_option maxRecDepth 100000
set_option maxHeartbeats 16000000
namespace Go.Proofs.YtlogpnoioimhjaaGreatDoor
open Go.RowKit
variable{B S:Nat}{l:List Ru}{s:Int}
def Tryz.Tu:(Tryz.prog.info? 9).map (fun i=>(i.zero,i.size,i.bytes))=some (some (.string ⟨#[]⟩),1,16):=by kernel_rfl
def N6:El Tryz.prog 55 9 1 16:=El.of Tryz.underlying55 Tryz.Tu rfl (by decide)
def UJ(s:ByteArray):(Cl s).oneCell'=true:=rfl
def Xl(n:Nat)(T:n<=4000000)(w:World):() 197 #[.slice none 0 0,n] w fun e w'=>∃o,e=.returned o/\Dr 9 w [] o w':=by
 by_cases h0:n=0
 ·subst h0
  go_enter Tryz.func197,Tryz.ntmps197
  go_wp2;go_ret;exact⟨_,rfl,Dr.nil _ _⟩
 ·obtain⟨i,t,C,a0,I⟩:=info_parts Tryz.Tu
  have j:=Lib.run_append_nil_zeros (P:=Tryz.prog) w 55 3 55 9 i (.string ⟨#[]⟩) .i64 .i64 Tryz.underlying55 Tryz.underlying3 t C n (by omega) (by omega) (by omega) (by rw[I];omega);have R:=grownCap_ge w n 0 9;have p:grownCap w n 0 9<=maxLen:=grownCap_le_maxLen w n 0 9 (by unfold maxLen;omega);generalize grownCap w n 0 9=cap at *;have P:(Builtin.zeroCells (Value.string ⟨#[]⟩).cells n++Builtin.zeroCells (Value.string ⟨#[]⟩).cells (cap-n)).size=cap:=by simp[Builtin.zeroCells,Value.cells];omega
  generalize Builtin.zeroCells (Value.string ⟨#[]⟩).cells n++Builtin.zeroCells (Value.string ⟨#[]⟩).cells (cap-n)=J at *;have U:0<(n:Int):=by omega
  have l:=Hd j;clear j;go_enter Tryz.func197,Tryz.ntmps197
  go_wp2_with (at_builtin;refine Lib.wpList_append_run _ rfl _ _ _ _ rfl _ _ rfl rfl _ _ l ?_)
  go_ret;refine⟨_,rfl,some ⟨w.heap.size,0,none⟩,cap,rfl,?_,?_⟩
  ·exact Mf (W:=w.drew) rfl (AF _) p (by omega)
  ·exact LZ (AG w _)
def jI(w:World)(xs j:List Value)(o i:Value)(wr:World):Prop:=
 (i=.int .i64 0/\Dr 9 w [] o wr)\/(i=.int .i64 1/\Dr 9 w xs o wr)\/(i=.int .i64 2/\Dr 9 w (xs++j) o wr)
def WU{w:World}{u v:Value}{a b:List ByteArray}(ha:BE Cl w u a)(hb:BE Cl w v b)(a8:a.length<=1048576)(a9:b.length<=1048576)(hu:w.cell? (B,0)=some u)(hv:w.cell? (B,1)=some v) :
  () 176 #[.slice (B,0) 2 2] w fun e w'=>∃o,e=.returned o/\Dr 9 w ((a++b).map Cl) o w':=by
 have a3:=Hd (fun y (hy:Below w w y)=>(ha.later hy).src UJ);have a4:=Hd (fun y (hy:Below w w y)=>(hb.later hy).src UJ);have HG:=Hd (fun n hn=>Xl n hn w);have hB:=World.block_lt_of_cell? w _ hu;obtain⟨⟨A1,c1,rfl,_⟩,_⟩:=ha;obtain⟨⟨A2,c2,rfl,_⟩,_⟩:=hb;have a5:(a.map Cl).length=a.length:=lM _;have a6:(b.map Cl).length=b.length:=lM _;rw[By];generalize a.map Cl=l at *;generalize b.map Cl=p at *;generalize a.length=n at *;generalize b.length=m at *;subst a5;subst a6;have a1:=Hd (HG (l.length+p.length) (by omega))
 have a7:=N6;clear HG;go_enter Tryz.func176,Tryz.ntmps176
 go_wp2
 go_loop [3,11] (fun s i=>(i=.int .i64 0/\s=.int .i64 0)\/(i=.int .i64 1/\s=.int .i64 l.length)\/(i=.int .i64 2/\s=.int .i64 ((l.length+p.length:Nat):Int))) (fun _ i=>2-(intOf i).toNat)
 case atStart=>exact .inl ⟨rfl,rfl⟩
 case round=>
  rcases hrel with⟨rfl,rfl⟩|⟨rfl,rfl⟩|⟨rfl,rfl⟩
  ·go_wp2
   go_round
   case rel=>exact .inr (.inl ⟨rfl,rfl⟩)
   case measure=>simp[intOf]
  ·go_wp2
   go_round
   case rel=>exact .inr (.inr ⟨rfl,by go_num⟩)
   case measure=>simp[intOf]
  ·go_wp2_with fail
   refine a1.mono ?_;rintro e w1 ⟨o,rfl,hO⟩;have t:=Hd hO;clear hO;go_wp2;go_loopw [6,27] (fun o i wr=>Hid (jI w l p o i wr)) (fun _ i _=>2-(intOf i).toNat)
   case atStart=>exact Hd (.inl ⟨rfl,t⟩)
   case round=>
    rcases hrel.out with⟨rfl,A,c,rfl,C,j⟩|⟨rfl,A,c,rfl,C,j⟩|⟨rfl,a0⟩
    ·have t:=Hd C
     have P:=Hd j;have e0:=(j.cell (p:=(B,0)) hB).trans hu;have T:=Hd (a3 wr j);have U:=j.size;clear C j hrel;go_wp2_with (at_builtin;refine Dc N6 (.tmp 31) (.tmp 32) rfl rfl (base:=w.heap.size) (n:=0) (m:=l.length) (N:=l.length) (xs:=[]) (news:=l) rfl rfl t T (by omega) (by unfold maxLen;omega) (by omega) U ?_;intro A2 c2 w2 I J r3;have R:=Hd (Nn P (xs:=[]) (by simp) I J);clear I J r3)
     go_roundw
     case rel=>exact Hd (.inr (.inl ⟨rfl,R⟩))
     case measure=>simp[intOf]
    ·have t:=Hd C
     have P:=Hd j;have e1:=(j.cell (p:=(B,1)) hB).trans hv;have T:=Hd (a4 wr j);have U:=j.size;clear C j hrel;go_wp2_with (at_builtin;refine Dc N6 (.tmp 31) (.tmp 32) rfl rfl (base:=w.heap.size) (n:=l.length) (m:=p.length) (N:=l.length+p.length) (xs:=l) (news:=p) rfl rfl t T rfl (by unfold maxLen;omega) (by omega) U ?_;intro A2 c2 w2 I J r3;have R:=Hd (Nn P rfl I J);clear I J r3)
     go_roundw
     case rel=>exact Hd (.inr (.inr ⟨rfl,R⟩))
     case measure=>simp[intOf]
    ·have a2:=Hd a0
     clear a0 hrel;go_wp2;go_ret;exact⟨_,rfl,a2⟩
section
open Go.RowKit Go.Maps
def Pq:Keyed Tryz.prog 9:=string_keyed Tryz.underlying9
def X6(w:World):(zeroValue 3).run Tryz.prog w=.ok (.int .i64 0) w:=by kernel_rfl
def kl(s:ByteArray):Lit:=.string s.data.toList
def Wk{a b:ByteArray}(h:kl a=kl b):a=b:=by unfold kl at h;injection h with h;exact ByteArray.ext (Array.ext' h)
structure I1(D:DataW Unit)(L:List ByteArray)(k:Nat):Prop where
 has:∀s,Maps.has D (kl s)=true<->s∈L.take k
 le:Maps.size D<=k
 nodup:Maps.size D=k<->(L.take k).Nodup
def I1.start(L:List ByteArray):I1 (.map []) L 0:=⟨fun s=>by simp[Maps.has],by simp[Maps.size],by simp[Maps.size]⟩
def cP(s:ByteArray):WideAt.IsKeyLit (kl s):=by unfold kl;simp[WideAt.IsKeyLit]
def I1.next{D:DataW Unit}{L:List ByteArray}{k:Nat}{s:ByteArray}(h:I1 D L k)(P:L[k]?=some s)(o:Maps.Tidy D)(d:DataW Unit):I1 (D.put (kl s) d) L (k+1):=by
 obtain⟨J,rfl⟩:=sG.1 P;have p:L.take (k+1)=L.take k++[L[k]]:=List.take_succ_eq_append_getElem J;have l:=Maps.size_put (k:=kl L[k]) o d;refine⟨fun s=>?_,?_,?_⟩
 ·rw[p]
  by_cases e:s=L[k]
  ·subst e
   rw[Maps.has_put_same o.isMap (cP _)];exact⟨fun _=>List.mem_append_right _ (mS.2 rfl),fun _=>rfl⟩
  ·rw[Maps.has_put_other (fun i=>e (Wk i)),h.has,mA,mS]
   exact⟨.inl,fun i=>i.resolve_right e⟩
 ·have:=h.le
  rw[l];split<;>omega
 ·rw[p,List.nodup_append,l]
  by_cases j:L[k]∈L.take k
  ·rw[if_pos ((h.has _).2 j)]
   have:=h.le;constructor
   ·intro i;omega
   ·rintro⟨_,_,C⟩
    exact absurd rfl (C L[k] j L[k] (by simp))
  ·rw[if_neg (fun i=>j ((h.has _).1 i))]
   constructor
   ·intro i
    refine⟨h.nodup.1 (by omega),by simp,?_⟩;intro a ha b I;rw[mS.1 I];rintro rfl;exact j ha
   ·rintro⟨t,_,_⟩
    have:=h.nodup.2 t;omega
def I1.all{D:DataW Unit}{L:List ByteArray}(h:I1 D L L.length):((Maps.size D:Int)==(L.length:Int))=decide L.Nodup:=by have:=h.nodup;rw[List.take_length]at this;rw[Bool.eq_iff_iff,beq_iff_eq,decide_eq_true_eq,<-this];omega
def KK{w y:World}(h:Below w w y)(o:Obj):Below w w (y.alloc o):=h.alloc h.size o
def eZ{w wr:World}{o:Value}{L:List ByteArray}{p:Array MapEntry}{clock:Nat}(h:BE Cl w o L)(C:w.heap[B]?=some (.map p clock))(j:w.grownBy wr (some B)):BE Cl wr o L:=by
 obtain⟨⟨A,c,T,I⟩,R,P⟩:=h;refine⟨⟨A,c,T,fun k x U=>?_⟩,R,P⟩;obtain⟨b,off,t,l,i⟩:=I k x U;refine⟨b,off,t,Ba l j.size,?_⟩;have J:b≠B:=by rintro rfl;simp[World.cell?,C]at i
 rw[World.cell?_of_block (w:=w) (j.block b l (by simp[J]))];exact i
def Zw{w wr:World}{b:Nat}{v:Value}(h:Ew w b v)(o:b≠B)(i:w.grownBy wr (some B)):Ew wr b v:=
 ⟨Ba h.lt i.size,fun j l=>by rw[World.cell?_of_block (w:=w) (i.block b h.lt (by simp[o]))];exact h.cell j l⟩
def SD{w w':World}{n:Nat}{D:DataW Unit}(h:w.ownsMap Tryz.prog 9 (plainElem Tryz.prog 3) B n D)(t:Below w w w'):w'.ownsMap Tryz.prog 9 (plainElem Tryz.prog 3) B n D:=by obtain⟨j,clock,i,l,o,p⟩:=h;exact⟨j,clock,by rw[t.block B (aG.1 i).1];exact i,l,o,p⟩
def lx{w:World}{v:Value}{g:Gm}(h:Et w v g):() 140 #[v] w (BB w g.once):=by
 have p:=h.small;have au:=p.2.2.1;have ar:=p.2.2.2.1;have b0:=@run_makeMap Tryz.prog;have HG:=Hd (Ew.new w 58 v);have aq:=Hd (fun y (I:Below w w y)=>M3 (h.later I));obtain⟨P,U,J,T,AR,cR,rfl,hT,hN,hR⟩:=h.open_;have ah:Hid (∀y B,Below w w y->y.cell? ⟨B,0,none⟩=some (.slice P g.T.length U)->y.cell? ⟨B,1,none⟩=some (.slice J g.N.length T)->() 176 #[.slice (some ⟨B,0,none⟩) 2 2] y fun e w'=>∃o,e=.returned o/\BE Cl w' o (g.T++g.N)/\Below y y w'):=Hd (fun y B I h0 h1=>(WU (hT.later I) (hN.later I) au ar h0 h1).mono fun e w' ⟨o,he,j⟩=>⟨o,he,j.arr (by rw[B8];omega),j.elim fun _ ⟨_,_,_,hb⟩=>hb⟩)
 have ao:Hid (∀s∈g.T++g.N,s.size<=maxLen):=Hd (fun s i=>by
  unfold maxLen;rcases mA.1 i with hh|hh
  ·have:=p.1 s hh;omega
  ·have:=p.2.1 s hh;omega)
 have ak:Hid ((g.T++g.N).length=g.T.length+g.N.length):=Hd B8;have an:Hid (g.once=decide (g.T++g.N).Nodup):=Hd rfl;clear h hT hN hR p;generalize g.T++g.N=L at *;generalize g.T.length=nT at *;generalize g.N.length=nN at *;generalize g.R.length=nR at *;generalize g.s=gs at *;generalize g.once=b5 at *;go_enter Tryz.func140,Tryz.ntmps140
 go_wp2_with fail
 refine(ah _ _ (KK (KK (AG w _) _) _) ?_ ?_).mono ?_
 ·exact(World.cell?_alloc_at _ _ _ _ (by simp)).trans rfl
 ·exact(World.cell?_alloc_at _ _ _ _ (by simp)).trans rfl
 rintro e w2 ⟨o,rfl,j,C⟩;obtain⟨⟨A,c,rfl,hc⟩,_⟩:=id j;have ae:=Hd j;have a1:=World.ownsMap_made (w.alloc (.cells #[.slice P nT U,.slice J nN T,.slice AR nR cR,gs] 58)) Tryz.prog 9 (plainElem (H:=Unit) Tryz.prog 3);have a6:(w.alloc (.cells #[.slice P nT U,.slice J nN T,.slice AR nR cR,gs] 58)).heap.size=w.heap.size+1:=by simp
 rw[a6]at a1;have a5:=Hd (SD (SD a1 (AG _ _)) C);have R:=Hd ((KK (KK (AG w _) _) _).trans (C.mono (KK (KK (AG w _) _) _).size));have ai:=Hd ((((HG.later (AG _ _)).later (AG _ _))).later C);have aw:=ak.out;clear C a1 a6 j hc;go_wp2;go_loopw [14] (fun a2 wr=>∃k:Nat,k<=L.length/\a2=.int .i64 k/\Hid (w2.grownBy wr (some (w.heap.size+1)))/\∃D:DataW Unit,Hid (wr.ownsMap Tryz.prog 9 (plainElem Tryz.prog 3) (w.heap.size+1) k D)/\Hid (I1 D L k)) (fun a2 _=>L.length-(intOf a2).toNat)
 case atStart=>exact⟨0,AX _,rfl,Hd (World.grownBy.refl _ _),_,a5,Hd (I1.start L)⟩
 case round=>
  obtain⟨k,hk,rfl,l,D,t,HC⟩:=hrel;have b3:=R.size;have b2:=l.size;by_cases ax:k<L.length
  ·have i:=eG ax
   generalize L[k]=s at i;have a4:=Hd (WideMaps.keyOf_string_mk Tryz.underlying9 (ao s (mG i)));obtain⟨es,clock,a8,_⟩:=a5.out;obtain⟨⟨A',c',e,a9⟩,_⟩:=eZ ae a8 l;cases e
   obtain⟨b,off,rfl,az,av⟩:=a9 k s i;have ag:=Hd (fun d=>HC.next i (t.tidy Pq) d);clear a8 a9 i;simp only[Cl]at av;go_wp2_with (first
    | (at_lookup;refine wpList_lookup_own_int _ rfl _ _ 139 rfl 9 3 .i64 Pq Tryz.underlying139 Tryz.underlying3 (X6 _) (w.heap.size+1) k _ rfl t _ _ rfl a4 ?_;intro c ay b1)
    | (at_mapUpdate;refine wpList_mapUpdate_own _ rfl _ _ _ 139 rfl 9 3 Pq Tryz.underlying139 _ (w.heap.size+1) k _ rfl t (by unfold maxLen;omega) _ _ _ rfl rfl a4 _ [] (plainElem_int Tryz.underlying3 (wrap64_wf _)) ?_;intro w3 ab aa;have aj:=Hd (l.trans aa);have al:=Hd ab;clear ab aa))
   go_roundw
   case rel=>exact⟨k+1,by omega,by go_num,aj,_,al,Hd (ag _)⟩
   case measure=>simp[intOf];omega
  ·obtain rfl:k=L.length:=by omega
   have a0:=R.grown l R.size (fun b4 hj=>by cases hj;omega);obtain⟨d0,d1,d2,d3⟩:=(Zw ai (by omega) l).four;have HT:=Hd (aq wr a0);have ad:=Hd HC.all;have a3:=Hd a0;clear a0;go_wp2_with (first
    | (at_len;refine wpList_len_own _ rfl _ 139 rfl 9 3 Tryz.underlying139 _ (w.heap.size+1) L.length _ rfl t ?_)
    | (go_at_call 103;refine HT.mono ?_;rintro e w4 ⟨rfl,a7⟩;have af:=Hd (a3.trans (a7.mono a3.size));clear a7))
   go_ret;refine⟨CI ?_,af⟩;rw[an.out,<-ad.out,aw];simp
end
section
open Go.RowKit Go.Maps
theorem gV(h:l.any (Gm.left s)=false)(k:Nat):D8 l s k=[]:=by
 unfold D8;rw[List.map_eq_nil_iff,List.filter_eq_nil_iff];intro i _;cases o:l[i]? with
 | none=>simp
 | some r=>simp only[Option.map_some,Option.getD_some];intro j;have:l.any (Gm.left s)=true:=List.any_eq_true.2 ⟨r,mG o,j⟩;rw[h]at this;cases this
theorem Yd(k:Nat)(P:k<=l.length):(k<=l.findIdx (Gm.left s)->D8 l s k=[])/\(l.findIdx (Gm.left s)<k->∃r,D8 l s k=((l.findIdx (Gm.left s):Nat):Int)::r):=by
 induction k with
 | zero=>exact⟨fun _=>rfl,fun h=>absurd h (Nat.not_lt_zero _)⟩
 | succ k J=>
  obtain⟨j,t⟩:=J (by omega);have i:=eG (show k<l.length by omega);constructor
  ·intro C
   have o:Gm.left s (l[k]'(by omega))=false:=List.not_of_lt_findIdx (p:=Gm.left s) (xs:=l) (i:=k) (by omega);unfold Gm.left at o;rw[PO i (by simpa using o)];exact j (by omega)
  ·intro C
   by_cases e:l.findIdx (Gm.left s)=k
   ·have p:Gm.left s (l[k]'(by omega))=true:=by
     have:=List.findIdx_getElem (p:=Gm.left s) (xs:=l) (w:=by omega);simpa only[e] using this
    unfold Gm.left at p;rw[Sg i (by simpa using p),j (by omega)];exact⟨[],by rw[List.nil_append,e]⟩
   ·obtain⟨r,I⟩:=t (by omega)
    rw[OJ i,I];exact⟨_,List.cons_append⟩
def X5(h:l.any (Gm.left s)=true):∃r,D8 l s l.length=((l.findIdx (Gm.left s):Nat):Int)::r:=by refine(Yd l.length (AF _)).2 (List.findIdx_lt_length_of_exists ?_);obtain⟨x,j,i⟩:=List.any_eq_true.1 h;exact⟨x,j,i⟩
def OU{F:Nat}{a:Value}{y:World}{P:Ending->World->Prop}(h:() F #[a] y P):() F (#[a]++#[]) y P:=h
def Gm.Ji(g:Gm)(k:Nat):Prop:=∀j,j<k->g.R.any (Gm.left ((g.T.length:Int)+1+j))=true
def Gm.Ji.next{g:Gm}{k:Nat}(h:g.Ji k)(i:g.R.any (Gm.left ((g.T.length:Int)+1+k))=true):g.Ji (k+1):=by
 intro j l;by_cases e:j=k
 ·subst e;exact i
 ·exact h j (by omega)
def Gm.Ji.all{g:Gm}(h:g.Ji g.N.length):g.each=true:=by unfold Gm.each;rw[List.all_eq_true];exact fun j i=>h j (List.mem_range.1 i)
theorem Ww{g:Gm}{k:Nat}(j:k<g.N.length)(h:g.R.any (Gm.left ((g.T.length:Int)+1+k))=false):g.each=false:=by
 cases i:g.each with
 | false=>rfl
 | true=>unfold Gm.each at i;rw[List.all_eq_true]at i;have:=i k (List.mem_range.2 j);rw[h]at this;cases this
def Ends(w:World)(n:Int)(e:Ending)(w':World):Prop:=e=.returned n/\Below w w w'
section
variable {w:World} {v:Value} {g:Gm}
structure Oc(w:World)(AT AN AR:Option Addr)(cT cN cR:Nat)(v:Value)(g:Gm):Prop where
 short:∀y,Below w w y->() 135 #[.slice AR g.R.length cR,.func (.func 134) #[] #[]] y (BB y (g.R.all IL))
 PW:∀y,Below w w y->() 136 #[.slice AT g.T.length cT,.func (.func 137) #[] #[]] y (BB y (g.T.all Kf))
 SL:∀y,Below w w y->() 136 #[.slice AN g.N.length cN,.func (.func 138) #[] #[]] y (BB y (g.N.all Ki))
 once:∀y,Below w w y->() 140 #[v] y (BB y g.once)
 BV:∀y,Below w w y->() 141 #[v,g.s] y (BB y (g.BV g.s))
 known:∀y B,Below w w y->Ew y B v->() 135 #[.slice AR g.R.length cR,.func (.func 142) #[] #[.pointer (some ⟨B,0,none⟩)]] y (BB y (g.R.all g.Hh))
 Hq:∀y,Below w w y->() 144 #[.slice AR g.R.length cR,.func (.func 145) #[] #[]] y (BB y g.Hq)
 top:∀y,Below w w y->() 103 #[v] y (Ends y ((g.T.length:Int)+(g.N.length:Int)))
 of:∀y s,Below w w y->() 146 #[v,.int .i64 s] y (fun e w'=>∃A c,e=.returned (.slice A (D8 g.R s g.R.length).length c)/\Below y y w')
def SB{C p t:Option Addr}{P I J:Nat}(h:Et w v g)(U:BE Cl w (.slice C g.T.length P) g.T)(T:BE Cl w (.slice p g.N.length I) g.N)(o:Fi w (.slice t g.R.length J) g.R):Oc w C p t P I J v g where
 short:=fun y i=>RY (o.later i) IL 134 #[] (fun _ _=>by kernel_rfl) (fun x j z l=>OU (dP x z ((o.mem j).later (i.trans (l.mono i.size)))))
 PW:=fun y i=>Rl (U.later i) Kf 137 #[] (fun _ _=>by kernel_rfl) (fun x j z l=>OU (Xc x (by have:=h.small.1 x j;omega) z))
 SL:=fun y i=>Rl (T.later i) Ki 138 #[] (fun _ _=>by kernel_rfl) (fun x j z l=>OU (Rs x (by have:=h.small.2.1 x j;omega) z))
 once:=fun y i=>lx (h.later i)
 BV:=fun y i=>Mp (h.later i) g.s
 known:=fun y B i R=>RY (o.later i) g.Hh 142 #[.pointer (some ⟨B,0,none⟩)] (fun _ _=>by kernel_rfl) (fun x j z l=>Wn h (o.mem j) (i.trans (l.mono i.size)) (R.later l))
 Hq:=fun y i=>ZX (o.later i)
 top:=fun y i=>M3 (h.later i)
 of:=fun y s i=>(Tm (h.later i) s).mono fun e w' ⟨a0,he,A,c,ho,_,hb⟩=>⟨A,c,by rw[he,ho,lM],Fv hb⟩
def Oc.kG{o j l:Option Addr}{C p t:Nat}(h:Oc w o j l C p t v g)(k:Nat)(y:World)(R:Below w w y):() 146 #[v,.int .i64 ((g.T.length:Int)+1+k)] y (fun e w'=>∃A n c,e=.returned (.slice A n c)/\(g.R.any (Gm.left ((g.T.length:Int)+1+k))=true->((n:Int)==0)=false)/\(g.R.any (Gm.left ((g.T.length:Int)+1+k))=false->n=0)/\Below y y w'):=
 (h.of y _ R).mono fun e w' ⟨A,c,J,I⟩=>⟨A,_,c,J,fun i=>by obtain⟨r,P⟩:=X5 i;rw[P,bN,List.length_cons];omega,fun i=>by rw[gV i];rfl,I⟩
def ZO(h:Et w v g):Calls Tryz.prog 98 #[v] w (Ends w g.check):=by
 have ay:=h.small;have bd:=ay.2.2.1;have bc:=ay.2.2.2.1;have HG:=Hd (Ew.new w 58 v);obtain⟨AT,cT,AN,cN,AR,cR,rfl,hT,hN,hR⟩:=h.open_;have t:=Hd (SB h hT hN hR);have ai:=Hd (fun k=>(SB h hT hN hR).kG k);have af:=Hd (fun k=>@Gm.Ji.next g k);have ag:=Hd (@Gm.Ji.all g);have ah:=Hd (fun k=>@Ww g k);have p:Hid (g.check=if ((decide (g.T.length<=120)&&decide (g.N.length<=120))&&(decide (g.R.length<=300)&&g.R.all IL)) then(if (g.T.all Kf&&g.N.all Ki) then(if g.once then(if (g.BV g.s&&g.R.all g.Hh) then(if g.Hq then(if g.each then 0 else 9) else 8) else 1) else 8) else 10) else 7):=Hd rfl
 clear h hT hN hR ay;by_cases q1:g.T.length<=120
 case neg=>
  rw[decide_eq_false q1]at p;have U:Hid (g.check=7):=Hd (by rw[p.out];simp);clear p t ai af ag ah;generalize g.T.length=I at *;generalize g.N.length=C at *;generalize g.R.length=nR at *;go_enter Tryz.func98,Tryz.ntmps98
  go_wp2;go_ret;exact⟨by rw[U.out];rfl,AG _ _⟩
 rw[decide_eq_true q1]at p;by_cases q2:g.N.length<=120
 case neg=>
  rw[decide_eq_false q2]at p;have U:Hid (g.check=7):=Hd (by rw[p.out];simp);clear p t ai af ag ah;generalize g.T.length=I at *;generalize g.N.length=C at *;generalize g.R.length=nR at *;go_enter Tryz.func98,Tryz.ntmps98
  go_wp2;go_ret;exact⟨by rw[U.out];rfl,AG _ _⟩
 rw[decide_eq_true q2]at p;by_cases q3:g.R.length<=300
 case neg=>
  rw[decide_eq_false q3]at p;have U:Hid (g.check=7):=Hd (by rw[p.out];simp);clear p t ai af ag ah;generalize g.T.length=I at *;generalize g.N.length=C at *;generalize g.R.length=nR at *;go_enter Tryz.func98,Tryz.ntmps98
  go_wp2;go_ret;exact⟨by rw[U.out];rfl,AG _ _⟩
 rw[decide_eq_true q3]at p;have K1:=Hd t.out.short;have K2:=Hd t.out.PW;have K3:=Hd t.out.SL;have K4:=Hd t.out.once;have K5:=Hd t.out.BV;have K6:=Hd t.out.known;have K7:=Hd t.out.Hq;have K8:=Hd t.out.top;clear t;generalize g.R.all IL=a1 at *;generalize g.T.all Kf=a2 at *;generalize g.N.all Ki=a3 at *;generalize g.once=a4 at *;generalize g.BV g.s=a5 at *;generalize g.R.all g.Hh=a6 at *;generalize g.Hq=a7 at *;generalize g.each=a8 at *;generalize g.check=bf at *;generalize g.T.length=I at *;generalize g.N.length=C at *
 generalize g.R.length=nR at *;generalize g.s=gs at *;go_enter Tryz.func98,Tryz.ntmps98
 go_wp2_with fail
 refine(K1.out _ (AG w _)).mono ?_;rintro e w1 ⟨rfl,aj⟩;have a0:=Hd (Fv aj);have b2:=Hd (HG.out.later aj);cases a1 with
 | false=>clear aj;go_wp2;go_ret;exact⟨by rw[p.out];rfl,a0.out⟩
 | true=>
 obtain⟨i,j,l,o⟩:=b2.out.four;clear aj;go_wp2_with fail
 refine(K2.out _ a0.out).mono ?_;rintro e w2 ⟨rfl,ak⟩;have a9:=Hd (a0.out.trans (ak.mono a0.out.size));have b3:=Hd (b2.out.later ak);cases a2 with
 | false=>clear ak i j l o;go_wp2;go_ret;exact⟨by rw[p.out];rfl,a9.out⟩
 | true=>
 clear i j l o;obtain⟨i,j,l,o⟩:=b3.out.four;clear ak;go_wp2_with fail
 refine(K3.out _ a9.out).mono ?_;rintro e w3 ⟨rfl,al⟩;have aa:=Hd (a9.out.trans (al.mono a9.out.size));have b4:=Hd (b3.out.later al);cases a3 with
 | false=>clear al i j l o;go_wp2;go_ret;exact⟨by rw[p.out];rfl,aa.out⟩
 | true=>
 clear i j l o;obtain⟨i,j,l,o⟩:=b4.out.four;clear al;go_wp2_with fail
 refine(K4.out _ aa.out).mono ?_;rintro e w4 ⟨rfl,an⟩;have ab:=Hd (aa.out.trans (an.mono aa.out.size));have b5:=Hd (b4.out.later an);cases a4 with
 | false=>clear an i j l o;go_wp2;go_ret;exact⟨by rw[p.out];rfl,ab.out⟩
 | true=>
 clear i j l o;obtain⟨i,j,l,o⟩:=b5.out.four;clear an;go_wp2_with fail
 refine(K5.out _ ab.out).mono ?_;rintro e w5 ⟨rfl,ao⟩;have ad:=Hd (ab.out.trans (ao.mono ab.out.size));have au:=Hd (b5.out.later ao);cases a5 with
 | false=>clear ao i j l o;go_wp2;go_ret;exact⟨by rw[p.out];rfl,ad.out⟩
 | true=>
 clear i j l o;obtain⟨i,j,l,o⟩:=au.out.four;clear ao;go_wp2_with fail
 refine(K6.out _ _ ad.out au.out).mono ?_;rintro e w6 ⟨rfl,aq⟩;have ae:=Hd (ad.out.trans (aq.mono ad.out.size));have b6:=Hd (au.out.later aq);cases a6 with
 | false=>clear aq i j l o;go_wp2;go_ret;exact⟨by rw[p.out];rfl,ae.out⟩
 | true=>
 clear i j l o;obtain⟨i,j,l,o⟩:=b6.out.four;clear aq;go_wp2_with fail
 refine(K7.out _ ae.out).mono ?_;rintro e w7 ⟨rfl,ar⟩;have b0:=Hd (ae.out.trans (ar.mono ae.out.size));have b7:=Hd (b6.out.later ar);cases a7 with
 | false=>clear ar i j l o;go_wp2;go_ret;exact⟨by rw[p.out];rfl,b0.out⟩
 | true=>
 clear i j l o;obtain⟨i,j,l,o⟩:=b7.out.four;clear ar;go_wp2;go_loopw [4] (fun az wr=>∃k:Nat,k<=C/\az=.int .i64 ((I:Int)+1+k)/\Hid (g.Ji k)/\Hid (Below w.heap.size w wr)/\Hid (Ew wr w.heap.size (.agg #[.slice AT I cT,.slice AN C cN,.slice AR nR cR,.int .i64 gs]))) (fun az _=>C+I+2-(intOf az).toNat)
 case atStart=>exact⟨0,AX _,by go_num,Hd (fun be hj=>absurd hj (Nat.not_lt_zero _)),b0,b7⟩
 case round=>
  clear i j l o;obtain⟨k,hk,rfl,HE,J,b9⟩:=hrel;obtain⟨i,j,l,o⟩:=b9.out.four;by_cases bb:k<C
  ·have HO:=Hd (ai.out k)
   have HX:=Hd (af.out k HE.out);have HY:=Hd (ah.out k bb);go_wp2_with fail
   refine(K8.out _ J.out).mono ?_;rintro e w8 ⟨rfl,P⟩;have T:=Hd (J.out.trans (P.mono J.out.size));have b8:=Hd (b9.out.later P);clear i j l o P;obtain⟨i,j,l,o⟩:=b8.out.four;go_wp2_with fail
   refine(HO.out _ T.out).mono ?_;rintro e w9 ⟨A,n,c,rfl,aw,ax,av⟩;have b1:=Hd (T.out.trans (av.mono T.out.size));have ba:=Hd (b8.out.later av);clear i j l o av;cases R:g.R.any (Gm.left ((I:Int)+1+k)) with
   | true=>
    have hn:=aw R;have HN:=Hd (HX.out R);clear aw ax R;go_wp2;go_roundw
    case rel=>exact⟨k+1,by omega,by go_num,HN,b1,ba⟩
    case measure=>simp[intOf];omega
   | false=>have hn:=ax R;have HN:=Hd (HY.out R);subst hn;clear aw ax R;go_wp2;go_ret;exact⟨by rw[p.out,HN.out];rfl,b1.out⟩
  ·obtain rfl:k=C:=by omega
   have HN:=Hd (ag.out HE.out);go_wp2_with fail
   refine(K8.out _ J.out).mono ?_;rintro e w8 ⟨rfl,P⟩;have T:=Hd (J.out.trans (P.mono J.out.size));clear i j l o P;go_wp2;go_ret;exact⟨by rw[p.out,HN.out];rfl,T.out⟩
end
end
variable{g:Gm}{w:World}
def PG.of(g:Gm):PG:=⟨g.T.map (·.data.toList),g.N.map (·.data.toList),g.s.toNat,g.R.map fun r=>(r.left.toNat,r.right.map Int.toNat)⟩
def O1(h:g.check=0):g.B7=true/\g.form=true/\g.once=true/\g.known=true/\g.Hq=true/\g.each=true:=by
 unfold Gm.check at h;by_cases i:g.B7=true
 ·by_cases j:g.form=true
  ·by_cases l:g.once=true
   ·by_cases o:g.known=true
    ·by_cases p:g.Hq=true
     ·by_cases t:g.each=true
      ·exact⟨i,j,l,o,p,t⟩
      ·rw[if_pos i,if_pos j,if_pos l,if_pos o,if_pos p,if_neg t]at h;omega
     ·rw[if_pos i,if_pos j,if_pos l,if_pos o,if_neg p]at h;omega
    ·rw[if_pos i,if_pos j,if_pos l,if_neg o]at h;omega
   ·rw[if_pos i,if_pos j,if_neg l]at h;omega
  ·rw[if_pos i,if_neg j]at h;omega
 ·rw[if_neg i]at h;omega
def Y2(i:g.B7=true)(j:g.form=true)(l:g.once=true)(o:g.known=true)(p:g.Hq=true)(t:g.each=true):g.check=0:=by unfold Gm.check;rw[if_pos i,if_pos j,if_pos l,if_pos o,if_pos p,if_pos t]
theorem findIdx_map{i j:Type}(f:i->j)(p:j->Bool):∀l:List i,(l.map f).findIdx p=l.findIdx (fun x=>p (f x))
 | []=>rfl
 | a::l=>by rw[List.map_cons,List.findIdx_cons,List.findIdx_cons,findIdx_map f p l]
def LA(h:g.known=true){r:Ru}(p:r∈g.R):((g.T.length:Int)<r.left/\r.left<=(g.T.length:Int)+(g.N.length:Int))/\∀s∈r.right,1<=s/\s<=(g.T.length:Int)+(g.N.length:Int):=by unfold Gm.known at h;rw[Bool.and_eq_true]at h;have i:=List.all_eq_true.1 h.2 r p;unfold Gm.Hh at i;rw[Bool.and_eq_true]at i;obtain⟨j,o⟩:=i;unfold Gm.BV at j;rw[Bool.and_eq_true,decide_eq_true_eq,decide_eq_true_eq]at j;refine⟨j,fun s t=>?_⟩;have l:=List.all_eq_true.1 o s t;unfold Gm.sym Gm.term Gm.BV at l;simp only[Bool.or_eq_true,Bool.and_eq_true,decide_eq_true_eq]at l;omega
def Qm(h:g.known=true):(g.T.length:Int)<g.s/\g.s<=(g.T.length:Int)+(g.N.length:Int):=by unfold Gm.known at h;rw[Bool.and_eq_true]at h;have i:=h.1;unfold Gm.BV at i;rw[Bool.and_eq_true,decide_eq_true_eq,decide_eq_true_eq]at i;exact i
def dB(h:g.known=true)(i:Nat):(PG.of g).R.findIdx (fun r=>r.1==(PG.of g).T.length+1+i)=g.first i:=by
 unfold PG.of Gm.first;simp only[lM];rw[findIdx_map];refine Od fun r j=>?_
 have:=(LA h j).1.1;unfold Gm.left;rw[Bool.eq_iff_iff,beq_iff_eq,beq_iff_eq];omega
def Gm.GF(g:PG)(l:List Ru):Gm:=⟨g.T.map str,g.N.map str,g.s,l⟩
def My(g:PG)(l:List Ru):Prop:=(l.map fun r=>(r.left.toNat,r.right.map Int.toNat))=g.R/\∀r∈l,0<=r.left/\∀s∈r.right,0<=s
def PG.VP{g:PG}(h:My g l):PG.of (Gm.GF g l)=g:=by
 have e:∀L:List AO,(L.map str).map (·.data.toList)=L:=by intro L;rw[List.map_map];exact(List.map_congr_left (fun a _=>LI a)).trans (List.map_id L)
 unfold PG.of Gm.GF;simp only[e,h.1];rfl
def YW{a b:AO}(h:str a=str b):a=b:=by rw[<-LI a,h,LI]
open Classical in
def gC{g:PG}(t:g.Good)(h:My g l):(Gm.GF g l).check=0/\(Gm.GF g l).ordered=true:=by
 obtain⟨I,a0⟩:=h;have J:(Gm.GF g l).T.length=g.T.length:=lM ..;have C:(Gm.GF g l).N.length=g.N.length:=lM ..;have a8:l.length=g.R.length:=by rw[<-I,lM]
 have a5:∀r∈l,(r.left.toNat,r.right.map Int.toNat)∈g.R:=fun r o=>by rw[<-I];exact List.mem_map_of_mem (f:=fun r:Ru=>(r.left.toNat,r.right.map Int.toNat)) o
 have a7:∀r∈l,((g.T.length:Int)<r.left/\r.left<=(g.T.length:Int)+(g.N.length:Int))/\∀s∈r.right,1<=s/\s<=(g.T.length:Int)+(g.N.length:Int):=by intro r o;obtain⟨⟨k1,P⟩,k3⟩:=t.g9 _ (a5 r o);have hp:=a0 r o;simp only at k1 P k3;refine⟨by omega,fun s p=>?_⟩;have:=k3 s.toNat (List.mem_map_of_mem p);have:=hp.2 s p;omega
 have a4:(Gm.GF g l).known=true:=by
  unfold Gm.known;rw[Bool.and_eq_true];refine⟨?_,List.all_eq_true.2 fun r o=>?_⟩
  ·have:=t.g8
   unfold Gm.BV;rw[J,C,Bool.and_eq_true,decide_eq_true_eq,decide_eq_true_eq];show (g.T.length:Int)<(g.s:Int)/\(g.s:Int)<=_;omega
  ·obtain⟨k1,P⟩:=a7 r o
   unfold Gm.Hh;rw[Bool.and_eq_true];refine⟨?_,List.all_eq_true.2 fun s p=>?_⟩
   ·unfold Gm.BV
    rw[J,C,Bool.and_eq_true,decide_eq_true_eq,decide_eq_true_eq];exact k1
   ·unfold Gm.sym Gm.term Gm.BV
    rw[J,C];simp only[Bool.or_eq_true,Bool.and_eq_true,decide_eq_true_eq];have:=P s p;omega
 have a2:∀i,(Gm.GF g l).first i=g.R.findIdx (fun r=>r.1==g.T.length+1+i):=by intro i;have:=dB a4 i;rw[<-this,PG.VP ⟨I,a0⟩]
 refine⟨Y2 ?_ ?_ ?_ a4 ?_ ?_,?_⟩
 ·unfold Gm.B7
  simp only[Bool.and_eq_true,decide_eq_true_eq];refine⟨⟨by rw[J];exact t.g1,by rw[C];exact t.g2⟩,by show l.length<=300;rw[a8];exact t.g3,List.all_eq_true.2 fun r o=>?_⟩;have:=t.g4 _ (a5 r o);unfold IL;simpa using this
 ·unfold Gm.form
  rw[Bool.and_eq_true];refine⟨List.all_eq_true.2 fun s p=>?_,List.all_eq_true.2 fun s p=>?_⟩
  ·obtain⟨a1,ht,rfl⟩:=List.mem_map.1 p
   unfold Kf;rw[LI];exact t.g5 a1 ht
  ·obtain⟨a1,ht,rfl⟩:=List.mem_map.1 p
   unfold Ki;rw[LI];exact t.g6 a1 ht
 ·unfold Gm.once
  rw[decide_eq_true_eq];show (g.T.map str++g.N.map str).Nodup;rw[<-By];exact List.pairwise_map.2 (List.Pairwise.imp (fun T e=>T (YW e)) t.g7)
 ·unfold Gm.Hq
  refine decide_eq_true ?_;intro i j x r a6 U o;have a9:=List.pairwise_iff_getElem.1 t.g10;obtain⟨hj,ex⟩:=sG.1 U;obtain⟨R,er⟩:=sG.1 o;have ab:j<l.length:=hj;have aa:i<l.length:=R;have T:=a9 j i (by omega) (by omega) a6;have e1:g.R[j]'(by omega)=(x.left.toNat,x.right.map Int.toNat):=by
   have:g.R[j]?=some (x.left.toNat,x.right.map Int.toNat):=by rw[<-I,pG,show l[j]?=some x from U];rfl
   exact(sG.1 this).2
  have e2:g.R[i]'(by omega)=(r.left.toNat,r.right.map Int.toNat):=by
   have:g.R[i]?=some (r.left.toNat,r.right.map Int.toNat):=by rw[<-I,pG,show l[i]?=some r from o];rfl
   exact(sG.1 this).2
  rw[e1,e2]at T;cases p:Fz x r with
  | false=>rfl
  | true=>exfalso;unfold Fz at p;rw[Bool.and_eq_true,beq_iff_eq,beq_iff_eq]at p;exact T (by rw[p.1,p.2])
 ·unfold Gm.each
  refine List.all_eq_true.2 fun i R=>?_
  rw[C]at R;obtain⟨q,hq,he⟩:=t.g11 i (List.mem_range.1 R);rw[<-I]at hq;obtain⟨r,o,rfl⟩:=List.mem_map.1 hq;refine List.any_eq_true.2 ⟨r,o,?_⟩;unfold Gm.left;rw[J,beq_iff_eq];have:=(a0 r o).1;simp only at he;omega
 ·unfold Gm.ordered
  refine decide_eq_true ?_;intro i x y U hy;have a3:∀k z,(Gm.GF g l).Nw[k]?=some z->k<g.N.length/\z=(((Gm.GF g l).first k:Nat):Int):=by intro k z hz;unfold Gm.Nw at hz;rw[pG]at hz;obtain⟨m,hm,rfl⟩:=Option.map_eq_some_iff.1 hz;obtain⟨hk,e⟩:=sG.1 hm;rw[List.getElem_range]at e;subst e;rw[List.length_range,C]at hk;exact⟨hk,rfl⟩
  obtain⟨k1,rfl⟩:=a3 i x U;obtain⟨P,rfl⟩:=a3 (i+1) y hy;have:=t.g12 i (i+1) (by omega) P;rw[a2,a2];omega
theorem Ls{n S:Nat}:∀d k,n-k=d->(∃m:Nat,ER n S k=m/\k<=m/\m<n/\S.testBit m=true/\∀j,k<=j->j<m->S.testBit j=false)\/(ER n S k = -1/\∀j,k<=j->j<n->S.testBit j=false)
 | 0,k,R=>by
  have h:∀j,k<=j->j<n->S.testBit j=false:=fun j l i=>by omega
  exact .inr ⟨LN h,h⟩
 | d+1,k,R=>by
  cases p:S.testBit k with
  | true=>
   have h:∀j,k<=j->j<k->S.testBit j=false:=fun j l i=>absurd l (Nat.not_le.2 i)
   exact .inl ⟨k,NU (k:=k) (by omega) p (AF _) h,AF _,by omega,p,h⟩
  | false=>
   have J:∀j,k<=j->j<k+1->S.testBit j=false:=fun j l i=>by rw[show j=k by omega];exact p
   rcases Ls (n:=n) (S:=S) d (k+1) (by omega) with⟨m,l,i,C,I,P⟩|⟨l,i⟩
   ·have o:∀j,k<=j->j<m->S.testBit j=false:=fun j a b=>by
     by_cases t:j<k+1
     ·exact J j a t
     ·exact P j (by omega) b
    exact .inl ⟨m,NU C I (by omega) o,by omega,C,I,o⟩
   ·have o:∀j,k<=j->j<n->S.testBit j=false:=fun j a b=>by
     by_cases t:j<k+1
     ·exact J j a t
     ·exact i j (by omega) b
    exact .inr ⟨LN o,o⟩
def TR{k d:Nat}(h:∀j,k<=j->j<k+d->S.testBit j=false):((List.range d).map (k+·)).filter (fun i=>S.testBit i)=[]:=by rw[List.filter_eq_nil_iff];intro j l;rw[List.mem_map]at l;obtain⟨i,o,rfl⟩:=l;rw[List.mem_range]at o;rw[h (k+i) (by omega) (by omega)];simp
def dC{k m:Nat}(p:k<=m)(l:S.testBit m=true)(h:∀j,k<=j->j<m->S.testBit j=false):Bp (m+1) S=Bp k S++[m]:=by unfold Bp;rw[show m+1=k+(m-k)+1 by omega,List.range_succ,List.range_add,List.filter_append,List.filter_append,TR (fun j i o=>h j i (by omega)),List.append_nil,show k+(m-k)=m by omega,List.filter_cons,if_pos l];rfl
def VQ{k n:Nat}(o:k<=n)(h:∀j,k<=j->j<n->S.testBit j=false):Bp n S=Bp k S:=by unfold Bp;rw[show n=k+(n-k) by omega,List.range_add,List.filter_append,TR (fun j i l=>h j i (by omega)),List.append_nil]
def AV(n:Nat):Value:=.int .i64 n
def KO(n S:Nat):(Bp n S).length<=n:=by unfold Bp;exact AW (List.length_filter_le _ _) (by simp)
def RS{s:AH}(h:AP w s S):() 164 #[s.v] w fun e w'=>∃o,e=.returned o/\Dr 3 w ((Bp s.n S).map AV) o w':=by
 have HH:=Hd h;have HN:Hid (∀y,Below w w y->∀k:Nat,k<=5000->() 160 #[s.v,.int .i64 k] y fun e w'=>e=.returned (.int .i64 (ER s.n S k))/\w'=y):=Hd (fun y T k P=>OI (h.later T) P);have a4:=h.small;unfold AH.v at *;clear h;have a0:=Hd (HN w (Below.refl _ w) 0 (by omega));go_enter Tryz.func164,Tryz.ntmps164
 go_wp2_with (go_at_call 160;refine a0.mono ?_;rintro e w' ⟨rfl,rfl⟩)
 rename World=>w
 go_loopw [3,4] (fun o i wr=>∃k:Nat,k<=s.n/\i=.int .i64 (ER s.n S k)/\Dr 3 w ((Bp k S).map AV) o wr) (fun _ i _=>if intOf i<0 then 0 else 5000-(intOf i).toNat)
 case atStart=>exact⟨0,AX _,rfl,Dr.nil _ _⟩
 case round=>
  obtain⟨k,P,rfl,A,oc,rfl,t,p⟩:=hrel;rcases Ls (n:=s.n) (S:=S) _ k rfl with⟨m,j,l,h3,h4,h5⟩|⟨j,l⟩
  ·have HU:=Hd (dC l h4 h5)
   have a1:Hid (∀y,Below w w y->() 160 #[(s.h,0),.int .i64 ((m:Int)+1)] y fun e w'=>e=.returned (.int .i64 (ER s.n S (m+1)))/\w'=y):=Hd (fun y T=>HN y T (m+1) (by omega));have HS:=Hd (L9 3 m rfl);have hl:=KO k S;have a3:ER s.n S (m+1)<0\/(m:Int)+1<=ER s.n S (m+1):=by rcases Ls (n:=s.n) (S:=S) _ (m+1) rfl with⟨m2,g1,g2,-⟩|⟨g1,-⟩<;>rw[g1]<;>omega
   have J:=Hd t;have I:=Hd p;rw[j];clear l h4 h5 t p j;generalize R:(Bp k S).map AV=C at *;have a5:C.length<=5000:=by rw[<-R,lM];omega
   have a2:=Hd R;clear R hl;go_wp2_with (first
    | (
      at_builtin;refine Dc Mb (.tmp 13) (.tmp 15) rfl rfl (base:=w.heap.size) (n:=C.length) (m:=1) (N:=C.length+1) (xs:=C) (news:=[.int .i64 m]) rfl rfl (J.alloc _) (HS _) rfl (by unfold maxLen;omega) (by omega) (by have:=I.size;simp;omega) ?_
      intro A2 c2 w2 r1 r2 r3;have U:=Hd (Nn (I.trans ((AG _ _).mono I.size)) rfl r1 r2);clear r1 r2 r3)
    | (go_at_call 160;refine(a1 _ U.choose_spec.choose_spec.2.2).mono ?_;rintro e w' ⟨rfl,rfl⟩))
   go_roundw
   case rel=>exact⟨m+1,by omega,rfl,by rw[HU.out,By,a2.out];exact U⟩
   case measure=>
    rw[show intOf (.int .i64 (m:Int))=(m:Int) from rfl,show intOf (.int .i64 (ER s.n S (m+1)))=ER s.n S (m+1) from rfl];rw[if_neg (by omega:¬(m:Int)<0)];rcases a3 with h|h
    ·rw[if_pos h];omega
    ·rw[if_neg (by omega)];omega
  ·have HE:=Hd (VQ P l)
   have J:Hid (Dr 3 w ((Bp k S).map AV) (.slice A ((Bp k S).map AV).length oc) wr):=Hd ⟨A,oc,rfl,t,p⟩;rw[j];clear l t p j;go_wp2_with fail
   go_ret;exact⟨_,rfl,by rw[HE.out];exact J⟩
def dQ{s:AH}(h:AP w s S):() 161 #[s.v] w fun e w'=>∃t:AH,e=.returned t.v/\t.n=s.n/\w.heap.size<=t.h/\w.heap.size<=t.wb/\AP w' t S/\Below w w w':=by
 obtain⟨c0,c1⟩:=h.cells;have af:=h.small;have a2:=fun y=>Js (P:=Tryz.prog) (t:=259) (e:=256) (z:=.int .u64 0) (bytes:=8) Tryz.underlying259 (by kernel_rfl) rfl (l:=((nW s.n:Nat):Int)) (n:=nW s.n) rfl (by unfold nW;omega) (by unfold nW;omega) y
 have a8:=Hd (fun y (hy:Below w w y)=>(h.later hy).src);have a1:=h.head.lt;have o:(CW s.n S).toList.length=nW s.n:=by unfold CW;simp
 have ab:=h.fit;have hm:nW s.n=nW s.n:=rfl;generalize aa:(CW s.n S).toList=i at *;generalize ae:nW s.n=m at *;have P:Hid (Ah (w.alloc (.cells (Array.replicate m (.int .u64 0)) 256)) w.heap.size 256 (List.replicate m (.int .u64 0)).toArray):=Hd (by simpa using Ah.new w 256 (Array.replicate m (.int .u64 0)));have d1:(w.alloc (.cells (Array.replicate m (.int .u64 0)) 256)).cell? (s.h,1)=some (.slice (s.wb,0) m m):=((AG w _).cell (p:=(s.h,1)) a1).trans c1;have J:=Hd (AG w (.cells (Array.replicate m (.int .u64 0)) 256));have R:=Hd (a8 _ J)
 have a6:=Hd a2;unfold AH.v;clear a2 h hm;have ai:=a6 w;generalize p:w.alloc (.cells (Array.replicate m (.int .u64 0)) 256)=W at *;have a9:W.heap.size=w.heap.size+1:=by rw[<-p];simp
 have ah:=Hd p;clear p;have a3:∀a4 v,i[a4]?=some v->W.cell? (((s.wb,0):Addr).add a4)=some v:=by
  rcases R.2 with⟨h0,-⟩|⟨ad,c,h0,-,h2⟩
  ·cases h0
  ·cases h0;exact h2
 have T:=run_copy_row (P:=Tryz.prog) W 259 259 3 256 w.heap.size 0 m m (s.wb,0) m m _ 256 i Tryz.underlying259 (by kernel_rfl) P (by rw[o];exact(Nat.min_self m).symm) a3 (by simp[o]) R.1;have C:=setRow_heap W w.heap.size _ (List.take 0 (List.replicate m (Value.int .u64 0)).toArray.toList++i++List.drop (0+i.length) (List.replicate m (Value.int .u64 0)).toArray.toList).toArray 256 (0,0) P;have l:=below_setRow J (AF _) (List.take 0 (List.replicate m (Value.int .u64 0)).toArray.toList++i++List.drop (0+i.length) (List.replicate m (Value.int .u64 0)).toArray.toList).toArray
 have I:(W.setRow w.heap.size (List.take 0 (List.replicate m (Value.int .u64 0)).toArray.toList++i++List.drop (0+i.length) (List.replicate m (Value.int .u64 0)).toArray.toList).toArray).heap.size=W.heap.size:=by simp[World.setRow]
 rw[o]at T;have U:(List.take 0 (List.replicate m (Value.int .u64 0)).toArray.toList++i++List.drop (0+i.length) (List.replicate m (Value.int .u64 0)).toArray.toList).toArray=i.toArray:=by simp[o]
 rw[U]at C l I;rw[show (List.take 0 (List.replicate m (Value.int .u64 0)).toArray.toList++i++List.drop (0+m) (List.replicate m (Value.int .u64 0)).toArray.toList).toArray=i.toArray by simp]at T;generalize W.setRow w.heap.size i.toArray=W2 at *;have e0:=(l.cell (p:=(s.h,0)) a1).trans c0;have a7:=Hd C;have a5:=Hd l;rw[a9]at I;clear C l U a3;generalize a0:w.heap.size=j at *;have ag:=Hd a0;clear a0;go_enter Tryz.func161,Tryz.ntmps161
 go_wp2_with fail
 go_ret;refine⟨⟨j+1,j,s.n⟩,?_,rfl,by show j<=j+1;omega,AF _,⟨?_,?_,af,ab⟩,?_⟩
 ·rfl
 ·show Ah _ (j+1) _ #[s.n,.slice (j,0) (nW s.n) (nW s.n)]
  rw[ae];exact Ah.newAt I
 ·show Ah _ j _ (CW s.n S)
  rw[show CW s.n S=i.toArray by rw[<-aa]];exact Ah.alloc (t:=256) a7 _
 ·exact a5.alloc (by omega) _
end Go.Proofs.YtlogpnoioimhjaaGreatDoor
