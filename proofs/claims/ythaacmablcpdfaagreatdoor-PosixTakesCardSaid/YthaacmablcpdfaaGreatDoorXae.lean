/- Ordered. Two rows of texts. No name stands twice. Check. A grammar of the program's. Sets of numbers. -/
import Derived.Test.YthaacmablcpdfaaGreatDoorXad
import Derived.Lib.AppendZeros
import Derived.Maps.Own
import Derived.Maps.OwnOps
import Derived.Maps.OwnSet
import Derived.Maps.Views
import Derived.StringKeys
import Derived.Test.YthaacmablcpdfaaGreatDoorXac
import Derived.Laws.CopyRow
import Derived.Laws.CopyOwn
import Derived.Test.YthaacmablcpdfaaGreatDoorXnm
set_option linter.all false
set_option maxRecDepth 100000
set_option maxHeartbeats 16000000
namespace Go.Proofs.YthaacmablcpdfaaGreatDoor
open Go.RowKit
variable{B S:Nat}{l:List Ru}{s:Int}
def Tryz.TC:(Tryz.prog.info? 9).map (fun i=>(i.zero,i.size,i.bytes))=some (some (.string ⟨#[]⟩),1,16):=by kernel_rfl
def O9:El Tryz.prog 30 9 1 16:=El.of Tryz.underlying30 Tryz.TC rfl (by decide)
def Uo(s:ByteArray):(Cd s).oneCell'=true:=rfl
def VG(n:Nat)(T:n<=4000000)(w:World):() 186 #[.slice none 0 0,n] w fun e w'=>∃o,e=.returned o/\C8 9 w [] o w':=by
 by_cases h0:n=0
 ·subst h0
  go_enter Tryz.func186,Tryz.ntmps186
  go_wp2;go_ret;exact⟨_,rfl,C8.nil _ _⟩
 ·obtain⟨i,t,C,a0,I⟩:=info_parts Tryz.TC
  have j:=Lib.run_append_nil_zeros (P:=Tryz.prog) w 30 3 30 9 i (.string ⟨#[]⟩) .i64 .i64 Tryz.underlying30 Tryz.underlying3 t C n (by omega) (by omega) (by omega) (by rw[I];omega);have R:=grownCap_ge w n 0 9;have p:grownCap w n 0 9<=maxLen:=grownCap_le_maxLen w n 0 9 (by unfold maxLen;omega);generalize grownCap w n 0 9=cap at *;have P:(Builtin.zeroCells (Value.string ⟨#[]⟩).cells n++Builtin.zeroCells (Value.string ⟨#[]⟩).cells (cap-n)).size=cap:=by simp[Builtin.zeroCells,Value.cells];omega
  generalize Builtin.zeroCells (Value.string ⟨#[]⟩).cells n++Builtin.zeroCells (Value.string ⟨#[]⟩).cells (cap-n)=J at *;have U:0<(n:Int):=by omega
  have l:=Hd j;clear j;go_enter Tryz.func186,Tryz.ntmps186
  go_wp2_with (at_builtin;refine Lib.wpList_append_run _ rfl _ _ _ _ rfl _ _ rfl rfl _ _ l ?_)
  go_ret;refine⟨_,rfl,some ⟨w.heap.size,0,none⟩,cap,rfl,?_,?_⟩
  ·exact OD (W:=w.drew) rfl (AG _) p (by omega)
  ·exact Ln (AH w _)
def fI(w:World)(xs j:List Value)(o i:Value)(wr:World):Prop:=
 (i=.int .i64 0/\C8 9 w [] o wr)\/(i=.int .i64 1/\C8 9 w xs o wr)\/(i=.int .i64 2/\C8 9 w (xs++j) o wr)
def Zw{w:World}{u v:Value}{a b:List ByteArray}(ha:Bv Cd w u a)(hb:Bv Cd w v b)(a8:a.length<=1048576)(a9:b.length<=1048576)(hu:w.cell? (B,0)=some u)(hv:w.cell? (B,1)=some v) :
  () 132 #[.slice (B,0) 2 2] w fun e w'=>∃o,e=.returned o/\C8 9 w ((a++b).map Cd) o w':=by
 have a3:=Hd (fun y (hy:Below w w y)=>(ha.later hy).src Uo);have a4:=Hd (fun y (hy:Below w w y)=>(hb.later hy).src Uo);have HG:=Hd (fun n hn=>VG n hn w);have hB:=World.block_lt_of_cell? w _ hu;obtain⟨⟨A1,c1,rfl,_⟩,_⟩:=ha;obtain⟨⟨A2,c2,rfl,_⟩,_⟩:=hb;have a5:(a.map Cd).length=a.length:=lM _;have a6:(b.map Cd).length=b.length:=lM _;rw[Bw];generalize a.map Cd=l at *;generalize b.map Cd=p at *;generalize a.length=n at *;generalize b.length=m at *;subst a5;subst a6;have a1:=Hd (HG (l.length+p.length) (by omega))
 have a7:=O9;clear HG;go_enter Tryz.func132,Tryz.ntmps132
 go_wp2
 go_loop [3,11] (fun s i=>(i=.int .i64 0/\s=.int .i64 0)\/(i=.int .i64 1/\s=.int .i64 l.length)\/(i=.int .i64 2/\s=.int .i64 ((l.length+p.length:Nat):Int))) (fun _ i=>2-(intOf i).toNat)
 case atStart=>exact .inl ⟨rfl,rfl⟩
 case round=>
  rcases hrel with⟨rfl,rfl⟩|⟨rfl,rfl⟩|⟨rfl,rfl⟩
  ·go_wp2
   go_round
   case rel=>exact .inr (.inl ⟨rfl,rfl⟩)
   case measure=>simp[intOf]
  ·go_wp2
   go_round
   case rel=>exact .inr (.inr ⟨rfl,by go_num⟩)
   case measure=>simp[intOf]
  ·go_wp2_with fail
   refine a1.mono ?_;rintro e w1 ⟨o,rfl,hO⟩;have t:=Hd hO;clear hO;go_wp2;go_loopw [6,27] (fun o i wr=>Hid (fI w l p o i wr)) (fun _ i _=>2-(intOf i).toNat)
   case atStart=>exact Hd (.inl ⟨rfl,t⟩)
   case round=>
    rcases hrel.out with⟨rfl,A,c,rfl,C,j⟩|⟨rfl,A,c,rfl,C,j⟩|⟨rfl,a0⟩
    ·have t:=Hd C
     have P:=Hd j;have e0:=(j.cell (p:=(B,0)) hB).trans hu;have T:=Hd (a3 wr j);have U:=j.size;clear C j hrel;go_wp2_with (at_builtin;refine DY O9 (.tmp 31) (.tmp 32) rfl rfl (base:=w.heap.size) (n:=0) (m:=l.length) (N:=l.length) (xs:=[]) (news:=l) rfl rfl t T (by omega) (by unfold maxLen;omega) (by omega) U ?_;intro A2 c2 w2 I J r3;have R:=Hd (Lc P (xs:=[]) (by simp) I J);clear I J r3)
     go_roundw
     case rel=>exact Hd (.inr (.inl ⟨rfl,R⟩))
     case measure=>simp[intOf]
    ·have t:=Hd C
     have P:=Hd j;have e1:=(j.cell (p:=(B,1)) hB).trans hv;have T:=Hd (a4 wr j);have U:=j.size;clear C j hrel;go_wp2_with (at_builtin;refine DY O9 (.tmp 31) (.tmp 32) rfl rfl (base:=w.heap.size) (n:=l.length) (m:=p.length) (N:=l.length+p.length) (xs:=l) (news:=p) rfl rfl t T rfl (by unfold maxLen;omega) (by omega) U ?_;intro A2 c2 w2 I J r3;have R:=Hd (Lc P rfl I J);clear I J r3)
     go_roundw
     case rel=>exact Hd (.inr (.inr ⟨rfl,R⟩))
     case measure=>simp[intOf]
    ·have a2:=Hd a0
     clear a0 hrel;go_wp2;go_ret;exact⟨_,rfl,a2⟩
section
open Go.RowKit Go.Maps
def NA:Keyed Tryz.prog 9:=string_keyed Tryz.underlying9
def dI(w:World):(zeroValue 3).run Tryz.prog w=.ok (.int .i64 0) w:=by kernel_rfl
def kl(s:ByteArray):Lit:=.string s.data.toList
def Yy{a b:ByteArray}(h:kl a=kl b):a=b:=by unfold kl at h;injection h with h;exact ByteArray.ext (Array.ext' h)
structure Iu(D:DataW Unit)(L:List ByteArray)(k:Nat):Prop where
 has:∀s,Maps.has D (kl s)=true<->s∈L.take k
 le:Maps.size D<=k
 nodup:Maps.size D=k<->(L.take k).Nodup
def Iu.start(L:List ByteArray):Iu (.map []) L 0:=⟨fun s=>by simp[Maps.has],by simp[Maps.size],by simp[Maps.size]⟩
def ZQ(s:ByteArray):WideAt.IsKeyLit (kl s):=by unfold kl;simp[WideAt.IsKeyLit]
def Iu.next{D:DataW Unit}{L:List ByteArray}{k:Nat}{s:ByteArray}(h:Iu D L k)(P:L[k]?=some s)(o:Maps.Tidy D)(d:DataW Unit):Iu (D.put (kl s) d) L (k+1):=by
 obtain⟨J,rfl⟩:=sG.1 P;have p:L.take (k+1)=L.take k++[L[k]]:=List.take_succ_eq_append_getElem J;have l:=Maps.size_put (k:=kl L[k]) o d;refine⟨fun s=>?_,?_,?_⟩
 ·rw[p]
  by_cases e:s=L[k]
  ·subst e
   rw[Maps.has_put_same o.isMap (ZQ _)];exact⟨fun _=>List.mem_append_right _ (mS.2 rfl),fun _=>rfl⟩
  ·rw[Maps.has_put_other (fun i=>e (Yy i)),h.has,mA,mS]
   exact⟨.inl,fun i=>i.resolve_right e⟩
 ·have:=h.le
  rw[l];split<;>omega
 ·rw[p,List.nodup_append,l]
  by_cases j:L[k]∈L.take k
  ·rw[if_pos ((h.has _).2 j)]
   have:=h.le;constructor
   ·intro i;omega
   ·rintro⟨_,_,C⟩
    exact absurd rfl (C L[k] j L[k] (by simp))
  ·rw[if_neg (fun i=>j ((h.has _).1 i))]
   constructor
   ·intro i
    refine⟨h.nodup.1 (by omega),by simp,?_⟩;intro a ha b I;rw[mS.1 I];rintro rfl;exact j ha
   ·rintro⟨t,_,_⟩
    have:=h.nodup.2 t;omega
def Iu.all{D:DataW Unit}{L:List ByteArray}(h:Iu D L L.length):((Maps.size D:Int)==(L.length:Int))=decide L.Nodup:=by have:=h.nodup;rw[List.take_length]at this;rw[Bool.eq_iff_iff,beq_iff_eq,decide_eq_true_eq,<-this];omega
def J2{w y:World}(h:Below w w y)(o:Obj):Below w w (y.alloc o):=h.alloc h.size o
def Yz{w wr:World}{o:Value}{L:List ByteArray}{p:Array MapEntry}{clock:Nat}(h:Bv Cd w o L)(C:w.heap[B]?=some (.map p clock))(j:w.grownBy wr (some B)):Bv Cd wr o L:=by
 obtain⟨⟨A,c,T,I⟩,R,P⟩:=h;refine⟨⟨A,c,T,fun k x U=>?_⟩,R,P⟩;obtain⟨b,off,t,l,i⟩:=I k x U;refine⟨b,off,t,AW l j.size,?_⟩;have J:b≠B:=by rintro rfl;simp[World.cell?,C]at i
 rw[World.cell?_of_block (w:=w) (j.block b l (by simp[J]))];exact i
def Xx{w wr:World}{b:Nat}{v:Value}(h:Dv w b v)(o:b≠B)(i:w.grownBy wr (some B)):Dv wr b v:=
 ⟨AW h.lt i.size,fun j l=>by rw[World.cell?_of_block (w:=w) (i.block b h.lt (by simp[o]))];exact h.cell j l⟩
def Qu{w w':World}{n:Nat}{D:DataW Unit}(h:w.ownsMap Tryz.prog 9 (plainElem Tryz.prog 3) B n D)(t:Below w w w'):w'.ownsMap Tryz.prog 9 (plainElem Tryz.prog 3) B n D:=by obtain⟨j,clock,i,l,o,p⟩:=h;exact⟨j,clock,by rw[t.block B (aG.1 i).1];exact i,l,o,p⟩
def Z4{w:World}{v:Value}{g:Gm}(h:Dc w v g):() 78 #[v] w (Br w g.once):=by
 have p:=h.small;have au:=p.2.2.1;have ar:=p.2.2.2.1;have b0:=@run_makeMap Tryz.prog;have HG:=Hd (Dv.new w 32 v);have aq:=Hd (fun y (I:Below w w y)=>Mm (h.later I));obtain⟨P,U,J,T,AR,cR,rfl,hT,hN,hR⟩:=h.open_;have ah:Hid (∀y B,Below w w y->y.cell? ⟨B,0,none⟩=some (.slice P g.T.length U)->y.cell? ⟨B,1,none⟩=some (.slice J g.N.length T)->() 132 #[.slice (some ⟨B,0,none⟩) 2 2] y fun e w'=>∃o,e=.returned o/\Bv Cd w' o (g.T++g.N)/\Below y y w'):=Hd (fun y B I h0 h1=>(Zw (hT.later I) (hN.later I) au ar h0 h1).mono fun e w' ⟨o,he,j⟩=>⟨o,he,j.arr (by rw[BO];omega),j.elim fun _ ⟨_,_,_,hb⟩=>hb⟩)
 have ao:Hid (∀s∈g.T++g.N,s.size<=maxLen):=Hd (fun s i=>by
  unfold maxLen;rcases mA.1 i with hh|hh
  ·have:=p.1 s hh;omega
  ·have:=p.2.1 s hh;omega)
 have ak:Hid ((g.T++g.N).length=g.T.length+g.N.length):=Hd BO;have an:Hid (g.once=decide (g.T++g.N).Nodup):=Hd rfl;clear h hT hN hR p;generalize g.T++g.N=L at *;generalize g.T.length=nT at *;generalize g.N.length=nN at *;generalize g.R.length=nR at *;generalize g.s=gs at *;generalize g.once=b5 at *;go_enter Tryz.func78,Tryz.ntmps78
 go_wp2_with fail
 refine(ah _ _ (J2 (J2 (AH w _) _) _) ?_ ?_).mono ?_
 ·exact(World.cell?_alloc_at _ _ _ _ (by simp)).trans rfl
 ·exact(World.cell?_alloc_at _ _ _ _ (by simp)).trans rfl
 rintro e w2 ⟨o,rfl,j,C⟩;obtain⟨⟨A,c,rfl,hc⟩,_⟩:=id j;have ae:=Hd j;have a1:=World.ownsMap_made (w.alloc (.cells #[.slice P nT U,.slice J nN T,.slice AR nR cR,gs] 32)) Tryz.prog 9 (plainElem (H:=Unit) Tryz.prog 3);have a6:(w.alloc (.cells #[.slice P nT U,.slice J nN T,.slice AR nR cR,gs] 32)).heap.size=w.heap.size+1:=by simp
 rw[a6]at a1;have a5:=Hd (Qu (Qu a1 (AH _ _)) C);have R:=Hd ((J2 (J2 (AH w _) _) _).trans (C.mono (J2 (J2 (AH w _) _) _).size));have ai:=Hd ((((HG.later (AH _ _)).later (AH _ _))).later C);have aw:=ak.out;clear C a1 a6 j hc;go_wp2;go_loopw [14] (fun a2 wr=>∃k:Nat,k<=L.length/\a2=.int .i64 k/\Hid (w2.grownBy wr (some (w.heap.size+1)))/\∃D:DataW Unit,Hid (wr.ownsMap Tryz.prog 9 (plainElem Tryz.prog 3) (w.heap.size+1) k D)/\Hid (Iu D L k)) (fun a2 _=>L.length-(intOf a2).toNat)
 case atStart=>exact⟨0,AZ _,rfl,Hd (World.grownBy.refl _ _),_,a5,Hd (Iu.start L)⟩
 case round=>
  obtain⟨k,hk,rfl,l,D,t,HC⟩:=hrel;have b3:=R.size;have b2:=l.size;by_cases ax:k<L.length
  ·have i:=eG ax
   generalize L[k]=s at i;have a4:=Hd (WideMaps.keyOf_string_mk Tryz.underlying9 (ao s (mG i)));obtain⟨es,clock,a8,_⟩:=a5.out;obtain⟨⟨A',c',e,a9⟩,_⟩:=Yz ae a8 l;cases e
   obtain⟨b,off,rfl,az,av⟩:=a9 k s i;have ag:=Hd (fun d=>HC.next i (t.tidy NA) d);clear a8 a9 i;simp only[Cd]at av;go_wp2_with (first
    | (at_lookup;refine wpList_lookup_own_int _ rfl _ _ 137 rfl 9 3 .i64 NA Tryz.underlying137 Tryz.underlying3 (dI _) (w.heap.size+1) k _ rfl t _ _ rfl a4 ?_;intro c ay b1)
    | (at_mapUpdate;refine wpList_mapUpdate_own _ rfl _ _ _ 137 rfl 9 3 NA Tryz.underlying137 _ (w.heap.size+1) k _ rfl t (by unfold maxLen;omega) _ _ _ rfl rfl a4 _ [] (plainElem_int Tryz.underlying3 (wrap64_wf _)) ?_;intro w3 ab aa;have aj:=Hd (l.trans aa);have al:=Hd ab;clear ab aa))
   go_roundw
   case rel=>exact⟨k+1,by omega,by go_num,aj,_,al,Hd (ag _)⟩
   case measure=>simp[intOf];omega
  ·obtain rfl:k=L.length:=by omega
   have a0:=R.grown l R.size (fun b4 hj=>by cases hj;omega);obtain⟨d0,d1,d2,d3⟩:=(Xx ai (by omega) l).four;have HT:=Hd (aq wr a0);have ad:=Hd HC.all;have a3:=Hd a0;clear a0;go_wp2_with (first
    | (at_len;refine wpList_len_own _ rfl _ 137 rfl 9 3 Tryz.underlying137 _ (w.heap.size+1) L.length _ rfl t ?_)
    | (go_at_call 38;refine HT.mono ?_;rintro e w4 ⟨rfl,a7⟩;have af:=Hd (a3.trans (a7.mono a3.size));clear a7))
   go_ret;refine⟨Ci ?_,af⟩;rw[an.out,<-ad.out,aw];simp
end
section
open Go.RowKit Go.Maps
theorem Vm(h:l.any (Gm.left s)=false)(k:Nat):Dx l s k=[]:=by
 unfold Dx;rw[List.map_eq_nil_iff,List.filter_eq_nil_iff];intro i _;cases o:l[i]? with
 | none=>simp
 | some r=>simp only[Option.map_some,Option.getD_some];intro j;have:l.any (Gm.left s)=true:=List.any_eq_true.2 ⟨r,mG o,j⟩;rw[h]at this;cases this
theorem cI(k:Nat)(P:k<=l.length):(k<=l.findIdx (Gm.left s)->Dx l s k=[])/\(l.findIdx (Gm.left s)<k->∃r,Dx l s k=((l.findIdx (Gm.left s):Nat):Int)::r):=by
 induction k with
 | zero=>exact⟨fun _=>rfl,fun h=>absurd h (Nat.not_lt_zero _)⟩
 | succ k J=>
  obtain⟨j,t⟩:=J (by omega);have i:=eG (show k<l.length by omega);constructor
  ·intro C
   have o:Gm.left s (l[k]'(by omega))=false:=List.not_of_lt_findIdx (p:=Gm.left s) (xs:=l) (i:=k) (by omega);unfold Gm.left at o;rw[NN i (by simpa using o)];exact j (by omega)
  ·intro C
   by_cases e:l.findIdx (Gm.left s)=k
   ·have p:Gm.left s (l[k]'(by omega))=true:=by
     have:=List.findIdx_getElem (p:=Gm.left s) (xs:=l) (w:=by omega);simpa only[e] using this
    unfold Gm.left at p;rw[Oz i (by simpa using p),j (by omega)];exact⟨[],by rw[List.nil_append,e]⟩
   ·obtain⟨r,I⟩:=t (by omega)
    rw[NQ i,I];exact⟨_,List.cons_append⟩
def ZZ(h:l.any (Gm.left s)=true):∃r,Dx l s l.length=((l.findIdx (Gm.left s):Nat):Int)::r:=by refine(cI l.length (AG _)).2 (List.findIdx_lt_length_of_exists ?_);obtain⟨x,j,i⟩:=List.any_eq_true.1 h;exact⟨x,j,i⟩
def NU{F:Nat}{a:Value}{y:World}{P:Ending->World->Prop}(h:() F #[a] y P):() F (#[a]++#[]) y P:=h
def Gm.I6(g:Gm)(k:Nat):Prop:=∀j,j<k->g.R.any (Gm.left ((g.T.length:Int)+1+j))=true
def Gm.I6.next{g:Gm}{k:Nat}(h:g.I6 k)(i:g.R.any (Gm.left ((g.T.length:Int)+1+k))=true):g.I6 (k+1):=by
 intro j l;by_cases e:j=k
 ·subst e;exact i
 ·exact h j (by omega)
def Gm.I6.all{g:Gm}(h:g.I6 g.N.length):g.each=true:=by unfold Gm.each;rw[List.all_eq_true];exact fun j i=>h j (List.mem_range.1 i)
theorem gY{g:Gm}{k:Nat}(j:k<g.N.length)(h:g.R.any (Gm.left ((g.T.length:Int)+1+k))=false):g.each=false:=by
 cases i:g.each with
 | false=>rfl
 | true=>unfold Gm.each at i;rw[List.all_eq_true]at i;have:=i k (List.mem_range.2 j);rw[h]at this;cases this
def Ends(w:World)(n:Int)(e:Ending)(w':World):Prop:=e=.returned n/\Below w w w'
section
variable {w:World} {v:Value} {g:Gm}
structure N8(w:World)(AT AN AR:Option Addr)(cT cN cR:Nat)(v:Value)(g:Gm):Prop where
 short:∀y,Below w w y->() 73 #[.slice AR g.R.length cR,.func (.func 72) #[] #[]] y (Br y (g.R.all IJ))
 UB:∀y,Below w w y->() 74 #[.slice AT g.T.length cT,.func (.func 75) #[] #[]] y (Br y (g.T.all KL))
 RR:∀y,Below w w y->() 74 #[.slice AN g.N.length cN,.func (.func 76) #[] #[]] y (Br y (g.N.all J1))
 once:∀y,Below w w y->() 78 #[v] y (Br y g.once)
 BJ:∀y,Below w w y->() 40 #[v,g.s] y (Br y (g.BJ g.s))
 known:∀y B,Below w w y->Dv y B v->() 73 #[.slice AR g.R.length cR,.func (.func 79) #[] #[.pointer (some ⟨B,0,none⟩)]] y (Br y (g.R.all g.Hi))
 G8:∀y,Below w w y->() 81 #[.slice AR g.R.length cR,.func (.func 82) #[] #[]] y (Br y g.G8)
 top:∀y,Below w w y->() 38 #[v] y (Ends y ((g.T.length:Int)+(g.N.length:Int)))
 of:∀y s,Below w w y->() 83 #[v,.int .i64 s] y (fun e w'=>∃A c,e=.returned (.slice A (Dx g.R s g.R.length).length c)/\Below y y w')
def Sv{C p t:Option Addr}{P I J:Nat}(h:Dc w v g)(U:Bv Cd w (.slice C g.T.length P) g.T)(T:Bv Cd w (.slice p g.N.length I) g.N)(o:Ff w (.slice t g.R.length J) g.R):N8 w C p t P I J v g where
 short:=fun y i=>Tm (o.later i) IJ 72 #[] (fun _ _=>by kernel_rfl) (fun x j z l=>NU (bM x z ((o.mem j).later (i.trans (l.mono i.size)))))
 UB:=fun y i=>TX (U.later i) KL 75 #[] (fun _ _=>by kernel_rfl) (fun x j z l=>NU (U2 x (by have:=h.small.1 x j;omega) z))
 RR:=fun y i=>TX (T.later i) J1 76 #[] (fun _ _=>by kernel_rfl) (fun x j z l=>NU (Tu x (by have:=h.small.2.1 x j;omega) z))
 once:=fun y i=>Z4 (h.later i)
 BJ:=fun y i=>Lj (h.later i) g.s
 known:=fun y B i R=>Tm (o.later i) g.Hi 79 #[.pointer (some ⟨B,0,none⟩)] (fun _ _=>by kernel_rfl) (fun x j z l=>Wr h (o.mem j) (i.trans (l.mono i.size)) (R.later l))
 G8:=fun y i=>Zy (o.later i)
 top:=fun y i=>Mm (h.later i)
 of:=fun y s i=>(QB (h.later i) s).mono fun e w' ⟨a0,he,A,c,ho,_,hb⟩=>⟨A,c,by rw[he,ho,lM],Eu hb⟩
def N8.eC{o j l:Option Addr}{C p t:Nat}(h:N8 w o j l C p t v g)(k:Nat)(y:World)(R:Below w w y):() 83 #[v,.int .i64 ((g.T.length:Int)+1+k)] y (fun e w'=>∃A n c,e=.returned (.slice A n c)/\(g.R.any (Gm.left ((g.T.length:Int)+1+k))=true->((n:Int)==0)=false)/\(g.R.any (Gm.left ((g.T.length:Int)+1+k))=false->n=0)/\Below y y w'):=
 (h.of y _ R).mono fun e w' ⟨A,c,J,I⟩=>⟨A,_,c,J,fun i=>by obtain⟨r,P⟩:=ZZ i;rw[P,bN,List.length_cons];omega,fun i=>by rw[Vm i];rfl,I⟩
def Qn(h:Dc w v g):Calls Tryz.prog 35 #[v] w (Ends w g.check):=by
 have ay:=h.small;have bd:=ay.2.2.1;have bc:=ay.2.2.2.1;have HG:=Hd (Dv.new w 32 v);obtain⟨AT,cT,AN,cN,AR,cR,rfl,hT,hN,hR⟩:=h.open_;have t:=Hd (Sv h hT hN hR);have ai:=Hd (fun k=>(Sv h hT hN hR).eC k);have af:=Hd (fun k=>@Gm.I6.next g k);have ag:=Hd (@Gm.I6.all g);have ah:=Hd (fun k=>@gY g k);have p:Hid (g.check=if ((decide (g.T.length<=120)&&decide (g.N.length<=120))&&(decide (g.R.length<=300)&&g.R.all IJ)) then(if (g.T.all KL&&g.N.all J1) then(if g.once then(if (g.BJ g.s&&g.R.all g.Hi) then(if g.G8 then(if g.each then 0 else 9) else 8) else 1) else 8) else 10) else 7):=Hd rfl
 clear h hT hN hR ay;by_cases q1:g.T.length<=120
 case neg=>
  rw[decide_eq_false q1]at p;have U:Hid (g.check=7):=Hd (by rw[p.out];simp);clear p t ai af ag ah;generalize g.T.length=I at *;generalize g.N.length=C at *;generalize g.R.length=nR at *;go_enter Tryz.func35,Tryz.ntmps35
  go_wp2;go_ret;exact⟨by rw[U.out];rfl,AH _ _⟩
 rw[decide_eq_true q1]at p;by_cases q2:g.N.length<=120
 case neg=>
  rw[decide_eq_false q2]at p;have U:Hid (g.check=7):=Hd (by rw[p.out];simp);clear p t ai af ag ah;generalize g.T.length=I at *;generalize g.N.length=C at *;generalize g.R.length=nR at *;go_enter Tryz.func35,Tryz.ntmps35
  go_wp2;go_ret;exact⟨by rw[U.out];rfl,AH _ _⟩
 rw[decide_eq_true q2]at p;by_cases q3:g.R.length<=300
 case neg=>
  rw[decide_eq_false q3]at p;have U:Hid (g.check=7):=Hd (by rw[p.out];simp);clear p t ai af ag ah;generalize g.T.length=I at *;generalize g.N.length=C at *;generalize g.R.length=nR at *;go_enter Tryz.func35,Tryz.ntmps35
  go_wp2;go_ret;exact⟨by rw[U.out];rfl,AH _ _⟩
 rw[decide_eq_true q3]at p;have K1:=Hd t.out.short;have K2:=Hd t.out.UB;have K3:=Hd t.out.RR;have K4:=Hd t.out.once;have K5:=Hd t.out.BJ;have K6:=Hd t.out.known;have K7:=Hd t.out.G8;have K8:=Hd t.out.top;clear t;generalize g.R.all IJ=a1 at *;generalize g.T.all KL=a2 at *;generalize g.N.all J1=a3 at *;generalize g.once=a4 at *;generalize g.BJ g.s=a5 at *;generalize g.R.all g.Hi=a6 at *;generalize g.G8=a7 at *;generalize g.each=a8 at *;generalize g.check=bf at *;generalize g.T.length=I at *;generalize g.N.length=C at *
 generalize g.R.length=nR at *;generalize g.s=gs at *;go_enter Tryz.func35,Tryz.ntmps35
 go_wp2_with fail
 refine(K1.out _ (AH w _)).mono ?_;rintro e w1 ⟨rfl,aj⟩;have a0:=Hd (Eu aj);have b2:=Hd (HG.out.later aj);cases a1 with
 | false=>clear aj;go_wp2;go_ret;exact⟨by rw[p.out];rfl,a0.out⟩
 | true=>
 obtain⟨i,j,l,o⟩:=b2.out.four;clear aj;go_wp2_with fail
 refine(K2.out _ a0.out).mono ?_;rintro e w2 ⟨rfl,ak⟩;have a9:=Hd (a0.out.trans (ak.mono a0.out.size));have b3:=Hd (b2.out.later ak);cases a2 with
 | false=>clear ak i j l o;go_wp2;go_ret;exact⟨by rw[p.out];rfl,a9.out⟩
 | true=>
 clear i j l o;obtain⟨i,j,l,o⟩:=b3.out.four;clear ak;go_wp2_with fail
 refine(K3.out _ a9.out).mono ?_;rintro e w3 ⟨rfl,al⟩;have aa:=Hd (a9.out.trans (al.mono a9.out.size));have b4:=Hd (b3.out.later al);cases a3 with
 | false=>clear al i j l o;go_wp2;go_ret;exact⟨by rw[p.out];rfl,aa.out⟩
 | true=>
 clear i j l o;obtain⟨i,j,l,o⟩:=b4.out.four;clear al;go_wp2_with fail
 refine(K4.out _ aa.out).mono ?_;rintro e w4 ⟨rfl,an⟩;have ab:=Hd (aa.out.trans (an.mono aa.out.size));have b5:=Hd (b4.out.later an);cases a4 with
 | false=>clear an i j l o;go_wp2;go_ret;exact⟨by rw[p.out];rfl,ab.out⟩
 | true=>
 clear i j l o;obtain⟨i,j,l,o⟩:=b5.out.four;clear an;go_wp2_with fail
 refine(K5.out _ ab.out).mono ?_;rintro e w5 ⟨rfl,ao⟩;have ad:=Hd (ab.out.trans (ao.mono ab.out.size));have au:=Hd (b5.out.later ao);cases a5 with
 | false=>clear ao i j l o;go_wp2;go_ret;exact⟨by rw[p.out];rfl,ad.out⟩
 | true=>
 clear i j l o;obtain⟨i,j,l,o⟩:=au.out.four;clear ao;go_wp2_with fail
 refine(K6.out _ _ ad.out au.out).mono ?_;rintro e w6 ⟨rfl,aq⟩;have ae:=Hd (ad.out.trans (aq.mono ad.out.size));have b6:=Hd (au.out.later aq);cases a6 with
 | false=>clear aq i j l o;go_wp2;go_ret;exact⟨by rw[p.out];rfl,ae.out⟩
 | true=>
 clear i j l o;obtain⟨i,j,l,o⟩:=b6.out.four;clear aq;go_wp2_with fail
 refine(K7.out _ ae.out).mono ?_;rintro e w7 ⟨rfl,ar⟩;have b0:=Hd (ae.out.trans (ar.mono ae.out.size));have b7:=Hd (b6.out.later ar);cases a7 with
 | false=>clear ar i j l o;go_wp2;go_ret;exact⟨by rw[p.out];rfl,b0.out⟩
 | true=>
 clear i j l o;obtain⟨i,j,l,o⟩:=b7.out.four;clear ar;go_wp2;go_loopw [4] (fun az wr=>∃k:Nat,k<=C/\az=.int .i64 ((I:Int)+1+k)/\Hid (g.I6 k)/\Hid (Below w.heap.size w wr)/\Hid (Dv wr w.heap.size (.agg #[.slice AT I cT,.slice AN C cN,.slice AR nR cR,.int .i64 gs]))) (fun az _=>C+I+2-(intOf az).toNat)
 case atStart=>exact⟨0,AZ _,by go_num,Hd (fun be hj=>absurd hj (Nat.not_lt_zero _)),b0,b7⟩
 case round=>
  clear i j l o;obtain⟨k,hk,rfl,HE,J,b9⟩:=hrel;obtain⟨i,j,l,o⟩:=b9.out.four;by_cases bb:k<C
  ·have HO:=Hd (ai.out k)
   have HX:=Hd (af.out k HE.out);have HY:=Hd (ah.out k bb);go_wp2_with fail
   refine(K8.out _ J.out).mono ?_;rintro e w8 ⟨rfl,P⟩;have T:=Hd (J.out.trans (P.mono J.out.size));have b8:=Hd (b9.out.later P);clear i j l o P;obtain⟨i,j,l,o⟩:=b8.out.four;go_wp2_with fail
   refine(HO.out _ T.out).mono ?_;rintro e w9 ⟨A,n,c,rfl,aw,ax,av⟩;have b1:=Hd (T.out.trans (av.mono T.out.size));have ba:=Hd (b8.out.later av);clear i j l o av;cases R:g.R.any (Gm.left ((I:Int)+1+k)) with
   | true=>
    have hn:=aw R;have HN:=Hd (HX.out R);clear aw ax R;go_wp2;go_roundw
    case rel=>exact⟨k+1,by omega,by go_num,HN,b1,ba⟩
    case measure=>simp[intOf];omega
   | false=>have hn:=ax R;have HN:=Hd (HY.out R);subst hn;clear aw ax R;go_wp2;go_ret;exact⟨by rw[p.out,HN.out];rfl,b1.out⟩
  ·obtain rfl:k=C:=by omega
   have HN:=Hd (ag.out HE.out);go_wp2_with fail
   refine(K8.out _ J.out).mono ?_;rintro e w8 ⟨rfl,P⟩;have T:=Hd (J.out.trans (P.mono J.out.size));clear i j l o P;go_wp2;go_ret;exact⟨by rw[p.out,HN.out];rfl,T.out⟩
end
end
variable{g:Gm}{w:World}
def PG.of(g:Gm):PG:=⟨g.T.map (·.data.toList),g.N.map (·.data.toList),g.s.toNat,g.R.map fun r=>(r.left.toNat,r.right.map Int.toNat)⟩
def O2(h:g.check=0):g.B3=true/\g.form=true/\g.once=true/\g.known=true/\g.G8=true/\g.each=true:=by
 unfold Gm.check at h;by_cases i:g.B3=true
 ·by_cases j:g.form=true
  ·by_cases l:g.once=true
   ·by_cases o:g.known=true
    ·by_cases p:g.G8=true
     ·by_cases t:g.each=true
      ·exact⟨i,j,l,o,p,t⟩
      ·rw[if_pos i,if_pos j,if_pos l,if_pos o,if_pos p,if_neg t]at h;omega
     ·rw[if_pos i,if_pos j,if_pos l,if_pos o,if_neg p]at h;omega
    ·rw[if_pos i,if_pos j,if_pos l,if_neg o]at h;omega
   ·rw[if_pos i,if_pos j,if_neg l]at h;omega
  ·rw[if_pos i,if_neg j]at h;omega
 ·rw[if_neg i]at h;omega
def ZE(i:g.B3=true)(j:g.form=true)(l:g.once=true)(o:g.known=true)(p:g.G8=true)(t:g.each=true):g.check=0:=by unfold Gm.check;rw[if_pos i,if_pos j,if_pos l,if_pos o,if_pos p,if_pos t]
theorem findIdx_map{i j:Type}(f:i->j)(p:j->Bool):∀l:List i,(l.map f).findIdx p=l.findIdx (fun x=>p (f x))
 | []=>rfl
 | a::l=>by rw[List.map_cons,List.findIdx_cons,List.findIdx_cons,findIdx_map f p l]
def La(h:g.known=true){r:Ru}(p:r∈g.R):((g.T.length:Int)<r.left/\r.left<=(g.T.length:Int)+(g.N.length:Int))/\∀s∈r.right,1<=s/\s<=(g.T.length:Int)+(g.N.length:Int):=by unfold Gm.known at h;rw[Bool.and_eq_true]at h;have i:=List.all_eq_true.1 h.2 r p;unfold Gm.Hi at i;rw[Bool.and_eq_true]at i;obtain⟨j,o⟩:=i;unfold Gm.BJ at j;rw[Bool.and_eq_true,decide_eq_true_eq,decide_eq_true_eq]at j;refine⟨j,fun s t=>?_⟩;have l:=List.all_eq_true.1 o s t;unfold Gm.sym Gm.term Gm.BJ at l;simp only[Bool.or_eq_true,Bool.and_eq_true,decide_eq_true_eq]at l;omega
def Tr(h:g.known=true):(g.T.length:Int)<g.s/\g.s<=(g.T.length:Int)+(g.N.length:Int):=by unfold Gm.known at h;rw[Bool.and_eq_true]at h;have i:=h.1;unfold Gm.BJ at i;rw[Bool.and_eq_true,decide_eq_true_eq,decide_eq_true_eq]at i;exact i
def iG(h:g.known=true)(i:Nat):(PG.of g).R.findIdx (fun r=>r.1==(PG.of g).T.length+1+i)=g.first i:=by
 unfold PG.of Gm.first;simp only[lM];rw[findIdx_map];refine Ph fun r j=>?_
 have:=(La h j).1.1;unfold Gm.left;rw[Bool.eq_iff_iff,beq_iff_eq,beq_iff_eq];omega
def Gm.Ex(g:PG)(l:List Ru):Gm:=⟨g.T.map str,g.N.map str,g.s,l⟩
def JX(g:PG)(l:List Ru):Prop:=(l.map fun r=>(r.left.toNat,r.right.map Int.toNat))=g.R/\∀r∈l,0<=r.left/\∀s∈r.right,0<=s
def PG.Vr{g:PG}(h:JX g l):PG.of (Gm.Ex g l)=g:=by
 have e:∀L:List AQ,(L.map str).map (·.data.toList)=L:=by intro L;rw[List.map_map];exact(List.map_congr_left (fun a _=>Lp a)).trans (List.map_id L)
 unfold PG.of Gm.Ex;simp only[e,h.1];rfl
def U7{a b:AQ}(h:str a=str b):a=b:=by rw[<-Lp a,h,Lp]
open Classical in
def gN{g:PG}(t:g.Good)(h:JX g l):(Gm.Ex g l).check=0/\(Gm.Ex g l).ordered=true:=by
 obtain⟨I,a0⟩:=h;have J:(Gm.Ex g l).T.length=g.T.length:=lM ..;have C:(Gm.Ex g l).N.length=g.N.length:=lM ..;have a8:l.length=g.R.length:=by rw[<-I,lM]
 have a5:∀r∈l,(r.left.toNat,r.right.map Int.toNat)∈g.R:=fun r o=>by rw[<-I];exact List.mem_map_of_mem (f:=fun r:Ru=>(r.left.toNat,r.right.map Int.toNat)) o
 have a7:∀r∈l,((g.T.length:Int)<r.left/\r.left<=(g.T.length:Int)+(g.N.length:Int))/\∀s∈r.right,1<=s/\s<=(g.T.length:Int)+(g.N.length:Int):=by intro r o;obtain⟨⟨k1,P⟩,k3⟩:=t.g9 _ (a5 r o);have hp:=a0 r o;simp only at k1 P k3;refine⟨by omega,fun s p=>?_⟩;have:=k3 s.toNat (List.mem_map_of_mem p);have:=hp.2 s p;omega
 have a4:(Gm.Ex g l).known=true:=by
  unfold Gm.known;rw[Bool.and_eq_true];refine⟨?_,List.all_eq_true.2 fun r o=>?_⟩
  ·have:=t.g8
   unfold Gm.BJ;rw[J,C,Bool.and_eq_true,decide_eq_true_eq,decide_eq_true_eq];show (g.T.length:Int)<(g.s:Int)/\(g.s:Int)<=_;omega
  ·obtain⟨k1,P⟩:=a7 r o
   unfold Gm.Hi;rw[Bool.and_eq_true];refine⟨?_,List.all_eq_true.2 fun s p=>?_⟩
   ·unfold Gm.BJ
    rw[J,C,Bool.and_eq_true,decide_eq_true_eq,decide_eq_true_eq];exact k1
   ·unfold Gm.sym Gm.term Gm.BJ
    rw[J,C];simp only[Bool.or_eq_true,Bool.and_eq_true,decide_eq_true_eq];have:=P s p;omega
 have a2:∀i,(Gm.Ex g l).first i=g.R.findIdx (fun r=>r.1==g.T.length+1+i):=by intro i;have:=iG a4 i;rw[<-this,PG.Vr ⟨I,a0⟩]
 refine⟨ZE ?_ ?_ ?_ a4 ?_ ?_,?_⟩
 ·unfold Gm.B3
  simp only[Bool.and_eq_true,decide_eq_true_eq];refine⟨⟨by rw[J];exact t.g1,by rw[C];exact t.g2⟩,by show l.length<=300;rw[a8];exact t.g3,List.all_eq_true.2 fun r o=>?_⟩;have:=t.g4 _ (a5 r o);unfold IJ;simpa using this
 ·unfold Gm.form
  rw[Bool.and_eq_true];refine⟨List.all_eq_true.2 fun s p=>?_,List.all_eq_true.2 fun s p=>?_⟩
  ·obtain⟨a1,ht,rfl⟩:=List.mem_map.1 p
   unfold KL;rw[Lp];exact t.g5 a1 ht
  ·obtain⟨a1,ht,rfl⟩:=List.mem_map.1 p
   unfold J1;rw[Lp];exact t.g6 a1 ht
 ·unfold Gm.once
  rw[decide_eq_true_eq];show (g.T.map str++g.N.map str).Nodup;rw[<-Bw];exact List.pairwise_map.2 (List.Pairwise.imp (fun T e=>T (U7 e)) t.g7)
 ·unfold Gm.G8
  refine decide_eq_true ?_;intro i j x r a6 U o;have a9:=List.pairwise_iff_getElem.1 t.g10;obtain⟨hj,ex⟩:=sG.1 U;obtain⟨R,er⟩:=sG.1 o;have ab:j<l.length:=hj;have aa:i<l.length:=R;have T:=a9 j i (by omega) (by omega) a6;have e1:g.R[j]'(by omega)=(x.left.toNat,x.right.map Int.toNat):=by
   have:g.R[j]?=some (x.left.toNat,x.right.map Int.toNat):=by rw[<-I,pG,show l[j]?=some x from U];rfl
   exact(sG.1 this).2
  have e2:g.R[i]'(by omega)=(r.left.toNat,r.right.map Int.toNat):=by
   have:g.R[i]?=some (r.left.toNat,r.right.map Int.toNat):=by rw[<-I,pG,show l[i]?=some r from o];rfl
   exact(sG.1 this).2
  rw[e1,e2]at T;cases p:Ea x r with
  | false=>rfl
  | true=>exfalso;unfold Ea at p;rw[Bool.and_eq_true,beq_iff_eq,beq_iff_eq]at p;exact T (by rw[p.1,p.2])
 ·unfold Gm.each
  refine List.all_eq_true.2 fun i R=>?_
  rw[C]at R;obtain⟨q,hq,he⟩:=t.g11 i (List.mem_range.1 R);rw[<-I]at hq;obtain⟨r,o,rfl⟩:=List.mem_map.1 hq;refine List.any_eq_true.2 ⟨r,o,?_⟩;unfold Gm.left;rw[J,beq_iff_eq];have:=(a0 r o).1;simp only at he;omega
 ·unfold Gm.ordered
  refine decide_eq_true ?_;intro i x y U hy;have a3:∀k z,(Gm.Ex g l).Oe[k]?=some z->k<g.N.length/\z=(((Gm.Ex g l).first k:Nat):Int):=by intro k z hz;unfold Gm.Oe at hz;rw[pG]at hz;obtain⟨m,hm,rfl⟩:=Option.map_eq_some_iff.1 hz;obtain⟨hk,e⟩:=sG.1 hm;rw[List.getElem_range]at e;subst e;rw[List.length_range,C]at hk;exact⟨hk,rfl⟩
  obtain⟨k1,rfl⟩:=a3 i x U;obtain⟨P,rfl⟩:=a3 (i+1) y hy;have:=t.g12 i (i+1) (by omega) P;rw[a2,a2];omega
theorem Ll{n S:Nat}:∀d k,n-k=d->(∃m:Nat,EZ n S k=m/\k<=m/\m<n/\S.testBit m=true/\∀j,k<=j->j<m->S.testBit j=false)\/(EZ n S k = -1/\∀j,k<=j->j<n->S.testBit j=false)
 | 0,k,R=>by
  have h:∀j,k<=j->j<n->S.testBit j=false:=fun j l i=>by omega
  exact .inr ⟨LP h,h⟩
 | d+1,k,R=>by
  cases p:S.testBit k with
  | true=>
   have h:∀j,k<=j->j<k->S.testBit j=false:=fun j l i=>absurd l (Nat.not_le.2 i)
   exact .inl ⟨k,OW (k:=k) (by omega) p (AG _) h,AG _,by omega,p,h⟩
  | false=>
   have J:∀j,k<=j->j<k+1->S.testBit j=false:=fun j l i=>by rw[show j=k by omega];exact p
   rcases Ll (n:=n) (S:=S) d (k+1) (by omega) with⟨m,l,i,C,I,P⟩|⟨l,i⟩
   ·have o:∀j,k<=j->j<m->S.testBit j=false:=fun j a b=>by
     by_cases t:j<k+1
     ·exact J j a t
     ·exact P j (by omega) b
    exact .inl ⟨m,OW C I (by omega) o,by omega,C,I,o⟩
   ·have o:∀j,k<=j->j<n->S.testBit j=false:=fun j a b=>by
     by_cases t:j<k+1
     ·exact J j a t
     ·exact i j (by omega) b
    exact .inr ⟨LP o,o⟩
def T9{k d:Nat}(h:∀j,k<=j->j<k+d->S.testBit j=false):((List.range d).map (k+·)).filter (fun i=>S.testBit i)=[]:=by rw[List.filter_eq_nil_iff];intro j l;rw[List.mem_map]at l;obtain⟨i,o,rfl⟩:=l;rw[List.mem_range]at o;rw[h (k+i) (by omega) (by omega)];simp
def YT{k m:Nat}(p:k<=m)(l:S.testBit m=true)(h:∀j,k<=j->j<m->S.testBit j=false):Bt (m+1) S=Bt k S++[m]:=by unfold Bt;rw[show m+1=k+(m-k)+1 by omega,List.range_succ,List.range_add,List.filter_append,List.filter_append,T9 (fun j i o=>h j i (by omega)),List.append_nil,show k+(m-k)=m by omega,List.filter_cons,if_pos l];rfl
def Yj{k n:Nat}(o:k<=n)(h:∀j,k<=j->j<n->S.testBit j=false):Bt n S=Bt k S:=by unfold Bt;rw[show n=k+(n-k) by omega,List.range_add,List.filter_append,T9 (fun j i l=>h j i (by omega)),List.append_nil]
def AO(n:Nat):Value:=.int .i64 n
def KE(n S:Nat):(Bt n S).length<=n:=by unfold Bt;exact AY (List.length_filter_le _ _) (by simp)
def SH{s:AI}(h:AU w s S):() 159 #[s.v] w fun e w'=>∃o,e=.returned o/\C8 3 w ((Bt s.n S).map AO) o w':=by
 have HH:=Hd h;have HN:Hid (∀y,Below w w y->∀k:Nat,k<=5000->() 155 #[s.v,.int .i64 k] y fun e w'=>e=.returned (.int .i64 (EZ s.n S k))/\w'=y):=Hd (fun y T k P=>NF (h.later T) P);have a4:=h.small;unfold AI.v at *;clear h;have a0:=Hd (HN w (Below.refl _ w) 0 (by omega));go_enter Tryz.func159,Tryz.ntmps159
 go_wp2_with (go_at_call 155;refine a0.mono ?_;rintro e w' ⟨rfl,rfl⟩)
 rename World=>w
 go_loopw [3,4] (fun o i wr=>∃k:Nat,k<=s.n/\i=.int .i64 (EZ s.n S k)/\C8 3 w ((Bt k S).map AO) o wr) (fun _ i _=>if intOf i<0 then 0 else 5000-(intOf i).toNat)
 case atStart=>exact⟨0,AZ _,rfl,C8.nil _ _⟩
 case round=>
  obtain⟨k,P,rfl,A,oc,rfl,t,p⟩:=hrel;rcases Ll (n:=s.n) (S:=S) _ k rfl with⟨m,j,l,h3,h4,h5⟩|⟨j,l⟩
  ·have HU:=Hd (YT l h4 h5)
   have a1:Hid (∀y,Below w w y->() 155 #[(s.h,0),.int .i64 ((m:Int)+1)] y fun e w'=>e=.returned (.int .i64 (EZ s.n S (m+1)))/\w'=y):=Hd (fun y T=>HN y T (m+1) (by omega));have HS:=Hd (Lg 3 m rfl);have hl:=KE k S;have a3:EZ s.n S (m+1)<0\/(m:Int)+1<=EZ s.n S (m+1):=by rcases Ll (n:=s.n) (S:=S) _ (m+1) rfl with⟨m2,g1,g2,-⟩|⟨g1,-⟩<;>rw[g1]<;>omega
   have J:=Hd t;have I:=Hd p;rw[j];clear l h4 h5 t p j;generalize R:(Bt k S).map AO=C at *;have a5:C.length<=5000:=by rw[<-R,lM];omega
   have a2:=Hd R;clear R hl;go_wp2_with (first
    | (
      at_builtin;refine DY Ke (.tmp 13) (.tmp 15) rfl rfl (base:=w.heap.size) (n:=C.length) (m:=1) (N:=C.length+1) (xs:=C) (news:=[.int .i64 m]) rfl rfl (J.alloc _) (HS _) rfl (by unfold maxLen;omega) (by omega) (by have:=I.size;simp;omega) ?_
      intro A2 c2 w2 r1 r2 r3;have U:=Hd (Lc (I.trans ((AH _ _).mono I.size)) rfl r1 r2);clear r1 r2 r3)
    | (go_at_call 155;refine(a1 _ U.choose_spec.choose_spec.2.2).mono ?_;rintro e w' ⟨rfl,rfl⟩))
   go_roundw
   case rel=>exact⟨m+1,by omega,rfl,by rw[HU.out,Bw,a2.out];exact U⟩
   case measure=>
    rw[show intOf (.int .i64 (m:Int))=(m:Int) from rfl,show intOf (.int .i64 (EZ s.n S (m+1)))=EZ s.n S (m+1) from rfl];rw[if_neg (by omega:¬(m:Int)<0)];rcases a3 with h|h
    ·rw[if_pos h];omega
    ·rw[if_neg (by omega)];omega
  ·have HE:=Hd (Yj P l)
   have J:Hid (C8 3 w ((Bt k S).map AO) (.slice A ((Bt k S).map AO).length oc) wr):=Hd ⟨A,oc,rfl,t,p⟩;rw[j];clear l t p j;go_wp2_with fail
   go_ret;exact⟨_,rfl,by rw[HE.out];exact J⟩
def UP{s:AI}(h:AU w s S):() 156 #[s.v] w fun e w'=>∃t:AI,e=.returned t.v/\t.n=s.n/\w.heap.size<=t.h/\w.heap.size<=t.wb/\AU w' t S/\Below w w w':=by
 obtain⟨c0,c1⟩:=h.cells;have af:=h.small;have a2:=fun y=>I1 (P:=Tryz.prog) (t:=159) (e:=156) (z:=.int .u64 0) (bytes:=8) Tryz.underlying159 (by kernel_rfl) rfl (l:=((nW s.n:Nat):Int)) (n:=nW s.n) rfl (by unfold nW;omega) (by unfold nW;omega) y
 have a8:=Hd (fun y (hy:Below w w y)=>(h.later hy).src);have a1:=h.head.lt;have o:(CT s.n S).toList.length=nW s.n:=by unfold CT;simp
 have ab:=h.fit;have hm:nW s.n=nW s.n:=rfl;generalize aa:(CT s.n S).toList=i at *;generalize ae:nW s.n=m at *;have P:Hid (Ah (w.alloc (.cells (Array.replicate m (.int .u64 0)) 156)) w.heap.size 156 (List.replicate m (.int .u64 0)).toArray):=Hd (by simpa using Ah.new w 156 (Array.replicate m (.int .u64 0)));have d1:(w.alloc (.cells (Array.replicate m (.int .u64 0)) 156)).cell? (s.h,1)=some (.slice (s.wb,0) m m):=((AH w _).cell (p:=(s.h,1)) a1).trans c1;have J:=Hd (AH w (.cells (Array.replicate m (.int .u64 0)) 156));have R:=Hd (a8 _ J)
 have a6:=Hd a2;unfold AI.v;clear a2 h hm;have ai:=a6 w;generalize p:w.alloc (.cells (Array.replicate m (.int .u64 0)) 156)=W at *;have a9:W.heap.size=w.heap.size+1:=by rw[<-p];simp
 have ah:=Hd p;clear p;have a3:∀a4 v,i[a4]?=some v->W.cell? (((s.wb,0):Addr).add a4)=some v:=by
  rcases R.2 with⟨h0,-⟩|⟨ad,c,h0,-,h2⟩
  ·cases h0
  ·cases h0;exact h2
 have T:=run_copy_row (P:=Tryz.prog) W 159 159 3 156 w.heap.size 0 m m (s.wb,0) m m _ 156 i Tryz.underlying159 (by kernel_rfl) P (by rw[o];exact(Nat.min_self m).symm) a3 (by simp[o]) R.1;have C:=setRow_heap W w.heap.size _ (List.take 0 (List.replicate m (Value.int .u64 0)).toArray.toList++i++List.drop (0+i.length) (List.replicate m (Value.int .u64 0)).toArray.toList).toArray 156 (0,0) P;have l:=below_setRow J (AG _) (List.take 0 (List.replicate m (Value.int .u64 0)).toArray.toList++i++List.drop (0+i.length) (List.replicate m (Value.int .u64 0)).toArray.toList).toArray
 have I:(W.setRow w.heap.size (List.take 0 (List.replicate m (Value.int .u64 0)).toArray.toList++i++List.drop (0+i.length) (List.replicate m (Value.int .u64 0)).toArray.toList).toArray).heap.size=W.heap.size:=by simp[World.setRow]
 rw[o]at T;have U:(List.take 0 (List.replicate m (Value.int .u64 0)).toArray.toList++i++List.drop (0+i.length) (List.replicate m (Value.int .u64 0)).toArray.toList).toArray=i.toArray:=by simp[o]
 rw[U]at C l I;rw[show (List.take 0 (List.replicate m (Value.int .u64 0)).toArray.toList++i++List.drop (0+m) (List.replicate m (Value.int .u64 0)).toArray.toList).toArray=i.toArray by simp]at T;generalize W.setRow w.heap.size i.toArray=W2 at *;have e0:=(l.cell (p:=(s.h,0)) a1).trans c0;have a7:=Hd C;have a5:=Hd l;rw[a9]at I;clear C l U a3;generalize a0:w.heap.size=j at *;have ag:=Hd a0;clear a0;go_enter Tryz.func156,Tryz.ntmps156
 go_wp2_with fail
 go_ret;refine⟨⟨j+1,j,s.n⟩,?_,rfl,by show j<=j+1;omega,AG _,⟨?_,?_,af,ab⟩,?_⟩
 ·rfl
 ·show Ah _ (j+1) _ #[s.n,.slice (j,0) (nW s.n) (nW s.n)]
  rw[ae];exact Ah.newAt I
 ·show Ah _ j _ (CT s.n S)
  rw[show CT s.n S=i.toArray by rw[<-aa]];exact Ah.alloc (t:=156) a7 _
 ·exact a5.alloc (by omega) _
end Go.Proofs.YthaacmablcpdfaaGreatDoor
