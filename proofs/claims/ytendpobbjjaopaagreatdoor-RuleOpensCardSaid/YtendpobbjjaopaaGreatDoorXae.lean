/- . -/
import Derived.Test.YtendpobbjjaopaaGreatDoorXad
import Derived.Lib.AppendZeros
import Derived.Maps.Own
import Derived.Maps.OwnOps
import Derived.Maps.OwnSet
import Derived.Maps.Views
import Derived.StringKeys
import Derived.Test.YtendpobbjjaopaaGreatDoorXac
import Derived.Laws.CopyRow
import Derived.Laws.CopyOwn
import Derived.Test.YtendpobbjjaopaaGreatDoorXnm
set_option linter.all false
set_option maxRecDepth 100000
set_option maxHeartbeats 16000000
namespace Go.Proofs.YtendpobbjjaopaaGreatDoor
open Go.RowKit
open Value renaming slice→oG,int→oH
open Option renaming some→oM,none→oN
open IntKind renaming i64→oO
open Obj renaming cells→oP
open Ending renaming returned→oQ
open World renaming cell?→oT
open Go renaming World→oU,Value→oV
variable{B S:Nat}{l:List Ru}{s:Int}
def Tryz.QO:(Tryz.prog.info? 9).map (fun i=>(i.zero,i.size,i.bytes))=oM (oM (.string ⟨#[]⟩),1,16):=by kernel_rfl
def OV:El Tryz.prog 44 9 1 16:=El.of Tryz.underlying44 Tryz.QO rfl nY
def UW(s:ByteArray):(Cp s).oneCell'=true:=rfl
def ZP(n:Nat)(T:n<=4000000)(w:oU):() 225 #[oG oN 0 0,n] w fun e w'=>∃o,e=oQ o/\Dp 9 w [] o w':=by
 by_cases h0:n=0
 ·subst h0
  go_enter Tryz.func225,Tryz.ntmps225
  go_wp2;go_ret;exact⟨_,rfl,Dp.nil _ _⟩
 ·obtain⟨i,t,C,a0,I⟩:=info_parts Tryz.QO
  have j:=Lib.run_append_nil_zeros (P:=Tryz.prog) w 44 3 44 9 i (.string ⟨#[]⟩) oO oO Tryz.underlying44 Tryz.underlying3 t C n nX nX nX (by rw[I];omega);have R:=grownCap_ge w n 0 9;have p:grownCap w n 0 9<=maxLen:=grownCap_le_maxLen w n 0 9 oB;generalize grownCap w n 0 9=cap at *;have P:(Builtin.zeroCells (Value.string ⟨#[]⟩).cells n++Builtin.zeroCells (Value.string ⟨#[]⟩).cells (cap-n)).size=cap:=by simp[Builtin.zeroCells,Value.cells];omega
  generalize Builtin.zeroCells (Value.string ⟨#[]⟩).cells n++Builtin.zeroCells (Value.string ⟨#[]⟩).cells (cap-n)=J at *;have U:0<(n:Int):=by omega
  have l:=Hd j;clear j;go_enter Tryz.func225,Tryz.ntmps225
  go_wp2_with (at_builtin;refine Lib.wpList_append_run _ rfl _ _ _ _ rfl _ _ rfl rfl _ _ l ?_)
  go_ret;refine⟨_,rfl,oM ⟨w.heap.size,0,oN⟩,cap,rfl,?_,?_⟩
  ·exact OA (W:=w.drew) rfl (Ay _) p nX
  ·exact LB (AG w _)
def eD(w:oU)(xs j:List oV)(o i:oV)(wr:oU):Prop:=
 (i=oH oO 0/\Dp 9 w [] o wr)\/(i=oH oO 1/\Dp 9 w xs o wr)\/(i=oH oO 2/\Dp 9 w (xs++j) o wr)
def dH{w:oU}{u v:oV}{a b:List ByteArray}(ha:BH Cp w u a)(hb:BH Cp w v b)(a8:a.length<=1048576)(a9:b.length<=1048576)(hu:oT w (B,0)=oM u)(hv:oT w (B,1)=oM v) :
  () 203 #[oG (B,0) 2 2] w fun e w'=>∃o,e=oQ o/\Dp 9 w ((a++b).map Cp) o w':=by
 have a3:=Hd (fun y (hy:Below w w y)=>(ha.later hy).src UW);have a4:=Hd (fun y (hy:Below w w y)=>(hb.later hy).src UW);have HG:=Hd (fun n hn=>ZP n hn w);have hB:=World.block_lt_of_cell? w _ hu;obtain⟨⟨A1,c1,rfl,_⟩,_⟩:=ha;obtain⟨⟨A2,c2,rfl,_⟩,_⟩:=hb;have a5:(a.map Cp).length=a.length:=lM _;have a6:(b.map Cp).length=b.length:=lM _;rw[BB];generalize a.map Cp=l at *;generalize b.map Cp=p at *;generalize a.length=n at *;generalize b.length=m at *;subst a5;subst a6;have a1:=Hd (HG (l.length+p.length) nX)
 have a7:=OV;clear HG;go_enter Tryz.func203,Tryz.ntmps203
 go_wp2
 go_loop [3,11] (fun s i=>(i=oH oO 0/\s=oH oO 0)\/(i=oH oO 1/\s=oH oO l.length)\/(i=oH oO 2/\s=oH oO ((l.length+p.length:Nat):Int))) (fun _ i=>2-(intOf i).toNat)
 case atStart=>exact .inl ⟨rfl,rfl⟩
 case round=>
  rcases hrel with⟨rfl,rfl⟩|⟨rfl,rfl⟩|⟨rfl,rfl⟩
  ·go_wp2
   go_round
   case rel=>exact .inr (.inl ⟨rfl,rfl⟩)
   case measure=>simp[intOf]
  ·go_wp2
   go_round
   case rel=>exact .inr (.inr ⟨rfl,oD⟩)
   case measure=>simp[intOf]
  ·go_wp2_with fail
   refine a1.mono ?_;rintro e w1 ⟨o,rfl,hO⟩;have t:=Hd hO;clear hO;go_wp2;go_loopw [6,27] (fun o i wr=>Hid (eD w l p o i wr)) (fun _ i _=>2-(intOf i).toNat)
   case atStart=>exact Hd (.inl ⟨rfl,t⟩)
   case round=>
    rcases hrel.out with⟨rfl,A,c,rfl,C,j⟩|⟨rfl,A,c,rfl,C,j⟩|⟨rfl,a0⟩
    ·have t:=Hd C
     have P:=Hd j;have e0:=(j.cell (p:=(B,0)) hB).trans hu;have T:=Hd (a3 wr j);have U:=j.size;clear C j hrel;go_wp2_with (at_builtin;refine DC OV (.tmp 31) (.tmp 32) rfl rfl (base:=w.heap.size) (n:=0) (m:=l.length) (N:=l.length) (xs:=[]) (news:=l) rfl rfl t T nX oB nX U ?_;intro A2 c2 w2 I J r3;have R:=Hd (MF P (xs:=[]) oA I J);clear I J r3)
     go_roundw
     case rel=>exact Hd (.inr (.inl ⟨rfl,R⟩))
     case measure=>simp[intOf]
    ·have t:=Hd C
     have P:=Hd j;have e1:=(j.cell (p:=(B,1)) hB).trans hv;have T:=Hd (a4 wr j);have U:=j.size;clear C j hrel;go_wp2_with (at_builtin;refine DC OV (.tmp 31) (.tmp 32) rfl rfl (base:=w.heap.size) (n:=l.length) (m:=p.length) (N:=l.length+p.length) (xs:=l) (news:=p) rfl rfl t T rfl oB nX U ?_;intro A2 c2 w2 I J r3;have R:=Hd (MF P rfl I J);clear I J r3)
     go_roundw
     case rel=>exact Hd (.inr (.inr ⟨rfl,R⟩))
     case measure=>simp[intOf]
    ·have a2:=Hd a0
     clear a0 hrel;go_wp2;go_ret;exact⟨_,rfl,a2⟩
section
open Go.RowKit Go.Maps
def PJ:Keyed Tryz.prog 9:=string_keyed Tryz.underlying9
def fX(w:oU):(zeroValue 3).run Tryz.prog w=.ok (oH oO 0) w:=by kernel_rfl
def kl(s:ByteArray):Lit:=.string s.data.toList
def cG{a b:ByteArray}(h:kl a=kl b):a=b:=by unfold kl at h;injection h with h;exact ByteArray.ext (Array.ext' h)
structure IJ(D:DataW Unit)(L:List ByteArray)(k:Nat):Prop where
 has:∀s,Maps.has D (kl s)=true<->s∈L.take k
 le:Maps.size D<=k
 nodup:Maps.size D=k<->(L.take k).Nodup
def IJ.start(L:List ByteArray):IJ (.map []) L 0:=⟨fun s=>by simp[Maps.has],by simp[Maps.size],by simp[Maps.size]⟩
def VM(s:ByteArray):WideAt.IsKeyLit (kl s):=by unfold kl;simp[WideAt.IsKeyLit]
def IJ.next{D:DataW Unit}{L:List ByteArray}{k:Nat}{s:ByteArray}(h:IJ D L k)(P:L[k]?=oM s)(o:Maps.Tidy D)(d:DataW Unit):IJ (D.put (kl s) d) L (k+1):=by
 obtain⟨J,rfl⟩:=sG.1 P;have p:L.take (k+1)=L.take k++[L[k]]:=List.take_succ_eq_append_getElem J;have l:=Maps.size_put (k:=kl L[k]) o d;refine⟨fun s=>?_,?_,?_⟩
 ·rw[p]
  by_cases e:s=L[k]
  ·subst e
   rw[Maps.has_put_same o.isMap (VM _)];exact⟨fun _=>List.mem_append_right _ (mS.2 rfl),fun _=>rfl⟩
  ·rw[Maps.has_put_other (fun i=>e (cG i)),h.has,mA,mS]
   exact⟨.inl,fun i=>i.resolve_right e⟩
 ·have:=h.le
  rw[l];split<;>omega
 ·rw[p,List.nodup_append,l]
  by_cases j:L[k]∈L.take k
  ·rw[if_pos ((h.has _).2 j)]
   have:=h.le;constructor
   ·intro i;omega
   ·rintro⟨_,_,C⟩
    exact absurd rfl (C L[k] j L[k] oA)
  ·rw[if_neg (fun i=>j ((h.has _).1 i))]
   constructor
   ·intro i
    refine⟨h.nodup.1 nX,oA,?_⟩;intro a ha b I;rw[mS.1 I];rintro rfl;exact j ha
   ·rintro⟨t,_,_⟩
    have:=h.nodup.2 t;omega
def IJ.all{D:DataW Unit}{L:List ByteArray}(h:IJ D L L.length):((Maps.size D:Int)==(L.length:Int))=decide L.Nodup:=by have:=h.nodup;rw[List.take_length]at this;rw[Bool.eq_iff_iff,beq_iff_eq,decide_eq_true_eq,<-this];omega
def Lw{w y:oU}(h:Below w w y)(o:Obj):Below w w (y.alloc o):=h.alloc h.size o
def ZF{w wr:oU}{o:oV}{L:List ByteArray}{p:Array MapEntry}{clock:Nat}(h:BH Cp w o L)(C:w.heap[B]?=oM (.map p clock))(j:w.grownBy wr (oM B)):BH Cp wr o L:=by
 obtain⟨⟨A,c,T,I⟩,R,P⟩:=h;refine⟨⟨A,c,T,fun k x U=>?_⟩,R,P⟩;obtain⟨b,off,t,l,i⟩:=I k x U;refine⟨b,off,t,A0 l j.size,?_⟩;have J:b≠B:=by rintro rfl;simp[World.cell?,C]at i
 rw[World.cell?_of_block (w:=w) (j.block b l (by simp[J]))];exact i
def kJ{w wr:oU}{b:Nat}{v:oV}(h:EE w b v)(o:b≠B)(i:w.grownBy wr (oM B)):EE wr b v:=
 ⟨A0 h.lt i.size,fun j l=>by rw[World.cell?_of_block (w:=w) (i.block b h.lt (by simp[o]))];exact h.cell j l⟩
def Vh{w w':oU}{n:Nat}{D:DataW Unit}(h:w.ownsMap Tryz.prog 9 (plainElem Tryz.prog 3) B n D)(t:Below w w w'):w'.ownsMap Tryz.prog 9 (plainElem Tryz.prog 3) B n D:=by obtain⟨j,clock,i,l,o,p⟩:=h;exact⟨j,clock,by rw[t.block B (aG.1 i).1];exact i,l,o,p⟩
def lq{w:oU}{v:oV}{g:Gm}(h:Ev w v g):() 167 #[v] w (BI w g.once):=by
 have p:=h.small;have au:=p.2.2.1;have ar:=p.2.2.2.1;have b0:=@run_makeMap Tryz.prog;have HG:=Hd (EE.new w 47 v);have aq:=Hd (fun y (I:Below w w y)=>Nc (h.later I));obtain⟨P,U,J,T,AR,cR,rfl,hT,hN,hR⟩:=h.open_;have ah:Hid (∀y B,Below w w y->oT y ⟨B,0,oN⟩=oM (oG P g.T.length U)->oT y ⟨B,1,oN⟩=oM (oG J g.N.length T)->() 203 #[oG (oM ⟨B,0,oN⟩) 2 2] y fun e w'=>∃o,e=oQ o/\BH Cp w' o (g.T++g.N)/\Below y y w'):=Hd (fun y B I h0 h1=>(dH (hT.later I) (hN.later I) au ar h0 h1).mono fun e w' ⟨o,he,j⟩=>⟨o,he,j.arr (by rw[Cb];omega),j.elim fun _ ⟨_,_,_,hb⟩=>hb⟩)
 have ao:Hid (∀s∈g.T++g.N,s.size<=maxLen):=Hd (fun s i=>by
  unfold maxLen;rcases mA.1 i with hh|hh
  ·have:=p.1 s hh;omega
  ·have:=p.2.1 s hh;omega)
 have ak:Hid ((g.T++g.N).length=g.T.length+g.N.length):=Hd Cb;have an:Hid (g.once=decide (g.T++g.N).Nodup):=Hd rfl;clear h hT hN hR p;generalize g.T++g.N=L at *;generalize g.T.length=nT at *;generalize g.N.length=nN at *;generalize g.R.length=nR at *;generalize g.s=gs at *;generalize g.once=b5 at *;go_enter Tryz.func167,Tryz.ntmps167
 go_wp2_with fail
 refine(ah _ _ (Lw (Lw (AG w _) _) _) ?_ ?_).mono ?_
 ·exact(World.cell?_alloc_at _ _ _ _ oA).trans rfl
 ·exact(World.cell?_alloc_at _ _ _ _ oA).trans rfl
 rintro e w2 ⟨o,rfl,j,C⟩;obtain⟨⟨A,c,rfl,hc⟩,_⟩:=id j;have ae:=Hd j;have a1:=World.ownsMap_made (w.alloc (oP #[oG P nT U,oG J nN T,oG AR nR cR,gs] 47)) Tryz.prog 9 (plainElem (H:=Unit) Tryz.prog 3);have a6:(w.alloc (oP #[oG P nT U,oG J nN T,oG AR nR cR,gs] 47)).heap.size=w.heap.size+1:=by simp
 rw[a6]at a1;have a5:=Hd (Vh (Vh a1 (AG _ _)) C);have R:=Hd ((Lw (Lw (AG w _) _) _).trans (C.mono (Lw (Lw (AG w _) _) _).size));have ai:=Hd ((((HG.later (AG _ _)).later (AG _ _))).later C);have aw:=ak.out;clear C a1 a6 j hc;go_wp2;go_loopw [14] (fun a2 wr=>∃k:Nat,k<=L.length/\a2=oH oO k/\Hid (w2.grownBy wr (oM (w.heap.size+1)))/\∃D:DataW Unit,Hid (wr.ownsMap Tryz.prog 9 (plainElem Tryz.prog 3) (w.heap.size+1) k D)/\Hid (IJ D L k)) (fun a2 _=>L.length-(intOf a2).toNat)
 case atStart=>exact⟨0,AX _,rfl,Hd (World.grownBy.refl _ _),_,a5,Hd (IJ.start L)⟩
 case round=>
  obtain⟨k,hk,rfl,l,D,t,HC⟩:=hrel;have b3:=R.size;have b2:=l.size;by_cases ax:k<L.length
  ·have i:=eG ax
   generalize L[k]=s at i;have a4:=Hd (WideMaps.keyOf_string_mk Tryz.underlying9 (ao s (mG i)));obtain⟨es,clock,a8,_⟩:=a5.out;obtain⟨⟨A',c',e,a9⟩,_⟩:=ZF ae a8 l;cases e
   obtain⟨b,off,rfl,az,av⟩:=a9 k s i;have ag:=Hd (fun d=>HC.next i (t.tidy PJ) d);clear a8 a9 i;simp only[Cp]at av;go_wp2_with (first
    | (at_lookup;refine wpList_lookup_own_int _ rfl _ _ 133 rfl 9 3 oO PJ Tryz.underlying133 Tryz.underlying3 (fX _) (w.heap.size+1) k _ rfl t _ _ rfl a4 ?_;intro c ay b1)
    | (at_mapUpdate;refine wpList_mapUpdate_own _ rfl _ _ _ 133 rfl 9 3 PJ Tryz.underlying133 _ (w.heap.size+1) k _ rfl t oB _ _ _ rfl rfl a4 _ [] (plainElem_int Tryz.underlying3 (wrap64_wf _)) ?_;intro w3 ab aa;have aj:=Hd (l.trans aa);have al:=Hd ab;clear ab aa))
   go_roundw
   case rel=>exact⟨k+1,nX,oD,aj,_,al,Hd (ag _)⟩
   case measure=>simp[intOf];omega
  ·obtain rfl:k=L.length:=by omega
   have a0:=R.grown l R.size (fun b4 hj=>by cases hj;omega);obtain⟨d0,d1,d2,d3⟩:=(kJ ai nX l).four;have HT:=Hd (aq wr a0);have ad:=Hd HC.all;have a3:=Hd a0;clear a0;go_wp2_with (first
    | (at_len;refine wpList_len_own _ rfl _ 133 rfl 9 3 Tryz.underlying133 _ (w.heap.size+1) L.length _ rfl t ?_)
    | (go_at_call 129;refine HT.mono ?_;rintro e w4 ⟨rfl,a7⟩;have af:=Hd (a3.trans (a7.mono a3.size));clear a7))
   go_ret;refine⟨Cr ?_,af⟩;rw[an.out,<-ad.out,aw];simp
end
section
open Go.RowKit Go.Maps
theorem iV(h:l.any (Gm.left s)=false)(k:Nat):Eb l s k=[]:=by
 unfold Eb;rw[List.map_eq_nil_iff,List.filter_eq_nil_iff];intro i _;cases o:l[i]? with
 | none=>simp
 | some r=>simp only[Option.map_some,Option.getD_some];intro j;have:l.any (Gm.left s)=true:=List.any_eq_true.2 ⟨r,mG o,j⟩;rw[h]at this;cases this
theorem XG(k:Nat)(P:k<=l.length):(k<=l.findIdx (Gm.left s)->Eb l s k=[])/\(l.findIdx (Gm.left s)<k->∃r,Eb l s k=((l.findIdx (Gm.left s):Nat):Int)::r):=by
 induction k with
 | zero=>exact⟨fun _=>rfl,fun h=>absurd h (Nat.not_lt_zero _)⟩
 | succ k J=>
  obtain⟨j,t⟩:=J nX;have i:=eG (show k<l.length by omega);constructor
  ·intro C
   have o:Gm.left s (l[k]'(by omega))=false:=List.not_of_lt_findIdx (p:=Gm.left s) (xs:=l) (i:=k) nX;unfold Gm.left at o;rw[UM i (by simpa using o)];exact j nX
  ·intro C
   by_cases e:l.findIdx (Gm.left s)=k
   ·have p:Gm.left s (l[k]'(by omega))=true:=by
     have:=List.findIdx_getElem (p:=Gm.left s) (xs:=l) (w:=by omega);simpa only[e] using this
    unfold Gm.left at p;rw[U0 i (by simpa using p),j nX];exact⟨[],by rw[List.nil_append,e]⟩
   ·obtain⟨r,I⟩:=t nX
    rw[NZ i,I];exact⟨_,List.cons_append⟩
def gB(h:l.any (Gm.left s)=true):∃r,Eb l s l.length=((l.findIdx (Gm.left s):Nat):Int)::r:=by refine(XG l.length (Ay _)).2 (List.findIdx_lt_length_of_exists ?_);obtain⟨x,j,i⟩:=List.any_eq_true.1 h;exact⟨x,j,i⟩
def PW{F:Nat}{a:oV}{y:oU}{P:Ending->oU->Prop}(h:() F #[a] y P):() F (#[a]++#[]) y P:=h
def Gm.Ji(g:Gm)(k:Nat):Prop:=∀j,j<k->g.R.any (Gm.left ((g.T.length:Int)+1+j))=true
def Gm.Ji.next{g:Gm}{k:Nat}(h:g.Ji k)(i:g.R.any (Gm.left ((g.T.length:Int)+1+k))=true):g.Ji (k+1):=by
 intro j l;by_cases e:j=k
 ·subst e;exact i
 ·exact h j nX
def Gm.Ji.all{g:Gm}(h:g.Ji g.N.length):g.each=true:=by unfold Gm.each;rw[List.all_eq_true];exact fun j i=>h j (List.mem_range.1 i)
theorem eP{g:Gm}{k:Nat}(j:k<g.N.length)(h:g.R.any (Gm.left ((g.T.length:Int)+1+k))=false):g.each=false:=by
 cases i:g.each with
 | false=>rfl
 | true=>unfold Gm.each at i;rw[List.all_eq_true]at i;have:=i k (List.mem_range.2 j);rw[h]at this;cases this
def Ends(w:oU)(n:Int)(e:Ending)(w':oU):Prop:=e=oQ n/\Below w w w'
section
variable {w:oU} {v:oV} {g:Gm}
structure OC(w:oU)(AT AN AR:Option Addr)(cT cN cR:Nat)(v:oV)(g:Gm):Prop where
 short:∀y,Below w w y->() 162 #[oG AR g.R.length cR,.func (.func 161) #[] #[]] y (BI y (g.R.all IQ))
 Qu:∀y,Below w w y->() 163 #[oG AT g.T.length cT,.func (.func 164) #[] #[]] y (BI y (g.T.all Kk))
 Uf:∀y,Below w w y->() 163 #[oG AN g.N.length cN,.func (.func 165) #[] #[]] y (BI y (g.N.all Lq))
 once:∀y,Below w w y->() 167 #[v] y (BI y g.once)
 BW:∀y,Below w w y->() 168 #[v,g.s] y (BI y (g.BW g.s))
 known:∀y B,Below w w y->EE y B v->() 162 #[oG AR g.R.length cR,.func (.func 169) #[] #[.pointer (oM ⟨B,0,oN⟩)]] y (BI y (g.R.all g.Hq))
 Hr:∀y,Below w w y->() 171 #[oG AR g.R.length cR,.func (.func 172) #[] #[]] y (BI y g.Hr)
 top:∀y,Below w w y->() 129 #[v] y (Ends y ((g.T.length:Int)+(g.N.length:Int)))
 of:∀y s,Below w w y->() 173 #[v,oH oO s] y (fun e w'=>∃A c,e=oQ (oG A (Eb g.R s g.R.length).length c)/\Below y y w')
def UD{C p t:Option Addr}{P I J:Nat}(h:Ev w v g)(U:BH Cp w (oG C g.T.length P) g.T)(T:BH Cp w (oG p g.N.length I) g.N)(o:Fe w (oG t g.R.length J) g.R):OC w C p t P I J v g where
 short:=fun y i=>Tv (o.later i) IQ 161 #[] (fun _ _=>by kernel_rfl) (fun x j z l=>PW (eX x z ((o.mem j).later (i.trans (l.mono i.size)))))
 Qu:=fun y i=>T3 (U.later i) Kk 164 #[] (fun _ _=>by kernel_rfl) (fun x j z l=>PW (Wr x (by have:=h.small.1 x j;omega) z))
 Uf:=fun y i=>T3 (T.later i) Lq 165 #[] (fun _ _=>by kernel_rfl) (fun x j z l=>PW (Ur x (by have:=h.small.2.1 x j;omega) z))
 once:=fun y i=>lq (h.later i)
 BW:=fun y i=>MZ (h.later i) g.s
 known:=fun y B i R=>Tv (o.later i) g.Hq 169 #[.pointer (oM ⟨B,0,oN⟩)] (fun _ _=>by kernel_rfl) (fun x j z l=>VV h (o.mem j) (i.trans (l.mono i.size)) (R.later l))
 Hr:=fun y i=>gD (o.later i)
 top:=fun y i=>Nc (h.later i)
 of:=fun y s i=>(Rh (h.later i) s).mono fun e w' ⟨a0,he,A,c,ho,_,hb⟩=>⟨A,c,by rw[he,ho,lM],Fy hb⟩
def OC.WN{o j l:Option Addr}{C p t:Nat}(h:OC w o j l C p t v g)(k:Nat)(y:oU)(R:Below w w y):() 173 #[v,oH oO ((g.T.length:Int)+1+k)] y (fun e w'=>∃A n c,e=oQ (oG A n c)/\(g.R.any (Gm.left ((g.T.length:Int)+1+k))=true->((n:Int)==0)=false)/\(g.R.any (Gm.left ((g.T.length:Int)+1+k))=false->n=0)/\Below y y w'):=
 (h.of y _ R).mono fun e w' ⟨A,c,J,I⟩=>⟨A,_,c,J,fun i=>by obtain⟨r,P⟩:=gB i;rw[P,bN,List.length_cons];omega,fun i=>by rw[iV i];rfl,I⟩
def Yz(h:Ev w v g):Calls Tryz.prog 124 #[v] w (Ends w g.check):=by
 have ay:=h.small;have bd:=ay.2.2.1;have bc:=ay.2.2.2.1;have HG:=Hd (EE.new w 47 v);obtain⟨AT,cT,AN,cN,AR,cR,rfl,hT,hN,hR⟩:=h.open_;have t:=Hd (UD h hT hN hR);have ai:=Hd (fun k=>(UD h hT hN hR).WN k);have af:=Hd (fun k=>@Gm.Ji.next g k);have ag:=Hd (@Gm.Ji.all g);have ah:=Hd (fun k=>@eP g k);have p:Hid (g.check=if ((decide (g.T.length<=120)&&decide (g.N.length<=120))&&(decide (g.R.length<=300)&&g.R.all IQ)) then(if (g.T.all Kk&&g.N.all Lq) then(if g.once then(if (g.BW g.s&&g.R.all g.Hq) then(if g.Hr then(if g.each then 0 else 9) else 8) else 1) else 8) else 10) else 7):=Hd rfl
 clear h hT hN hR ay;by_cases q1:g.T.length<=120
 case neg=>
  rw[decide_eq_false q1]at p;have U:Hid (g.check=7):=Hd (by rw[p.out];simp);clear p t ai af ag ah;generalize g.T.length=I at *;generalize g.N.length=C at *;generalize g.R.length=nR at *;go_enter Tryz.func124,Tryz.ntmps124
  go_wp2;go_ret;exact⟨by rw[U.out];rfl,AG _ _⟩
 rw[decide_eq_true q1]at p;by_cases q2:g.N.length<=120
 case neg=>
  rw[decide_eq_false q2]at p;have U:Hid (g.check=7):=Hd (by rw[p.out];simp);clear p t ai af ag ah;generalize g.T.length=I at *;generalize g.N.length=C at *;generalize g.R.length=nR at *;go_enter Tryz.func124,Tryz.ntmps124
  go_wp2;go_ret;exact⟨by rw[U.out];rfl,AG _ _⟩
 rw[decide_eq_true q2]at p;by_cases q3:g.R.length<=300
 case neg=>
  rw[decide_eq_false q3]at p;have U:Hid (g.check=7):=Hd (by rw[p.out];simp);clear p t ai af ag ah;generalize g.T.length=I at *;generalize g.N.length=C at *;generalize g.R.length=nR at *;go_enter Tryz.func124,Tryz.ntmps124
  go_wp2;go_ret;exact⟨by rw[U.out];rfl,AG _ _⟩
 rw[decide_eq_true q3]at p;have K1:=Hd t.out.short;have K2:=Hd t.out.Qu;have K3:=Hd t.out.Uf;have K4:=Hd t.out.once;have K5:=Hd t.out.BW;have K6:=Hd t.out.known;have K7:=Hd t.out.Hr;have K8:=Hd t.out.top;clear t;generalize g.R.all IQ=a1 at *;generalize g.T.all Kk=a2 at *;generalize g.N.all Lq=a3 at *;generalize g.once=a4 at *;generalize g.BW g.s=a5 at *;generalize g.R.all g.Hq=a6 at *;generalize g.Hr=a7 at *;generalize g.each=a8 at *;generalize g.check=bf at *;generalize g.T.length=I at *;generalize g.N.length=C at *
 generalize g.R.length=nR at *;generalize g.s=gs at *;go_enter Tryz.func124,Tryz.ntmps124
 go_wp2_with fail
 refine(K1.out _ (AG w _)).mono ?_;rintro e w1 ⟨rfl,aj⟩;have a0:=Hd (Fy aj);have b2:=Hd (HG.out.later aj);cases a1 with
 | false=>clear aj;go_wp2;go_ret;exact⟨by rw[p.out];rfl,a0.out⟩
 | true=>
 obtain⟨i,j,l,o⟩:=b2.out.four;clear aj;go_wp2_with fail
 refine(K2.out _ a0.out).mono ?_;rintro e w2 ⟨rfl,ak⟩;have a9:=Hd (a0.out.trans (ak.mono a0.out.size));have b3:=Hd (b2.out.later ak);cases a2 with
 | false=>clear ak i j l o;go_wp2;go_ret;exact⟨by rw[p.out];rfl,a9.out⟩
 | true=>
 clear i j l o;obtain⟨i,j,l,o⟩:=b3.out.four;clear ak;go_wp2_with fail
 refine(K3.out _ a9.out).mono ?_;rintro e w3 ⟨rfl,al⟩;have aa:=Hd (a9.out.trans (al.mono a9.out.size));have b4:=Hd (b3.out.later al);cases a3 with
 | false=>clear al i j l o;go_wp2;go_ret;exact⟨by rw[p.out];rfl,aa.out⟩
 | true=>
 clear i j l o;obtain⟨i,j,l,o⟩:=b4.out.four;clear al;go_wp2_with fail
 refine(K4.out _ aa.out).mono ?_;rintro e w4 ⟨rfl,an⟩;have ab:=Hd (aa.out.trans (an.mono aa.out.size));have b5:=Hd (b4.out.later an);cases a4 with
 | false=>clear an i j l o;go_wp2;go_ret;exact⟨by rw[p.out];rfl,ab.out⟩
 | true=>
 clear i j l o;obtain⟨i,j,l,o⟩:=b5.out.four;clear an;go_wp2_with fail
 refine(K5.out _ ab.out).mono ?_;rintro e w5 ⟨rfl,ao⟩;have ad:=Hd (ab.out.trans (ao.mono ab.out.size));have au:=Hd (b5.out.later ao);cases a5 with
 | false=>clear ao i j l o;go_wp2;go_ret;exact⟨by rw[p.out];rfl,ad.out⟩
 | true=>
 clear i j l o;obtain⟨i,j,l,o⟩:=au.out.four;clear ao;go_wp2_with fail
 refine(K6.out _ _ ad.out au.out).mono ?_;rintro e w6 ⟨rfl,aq⟩;have ae:=Hd (ad.out.trans (aq.mono ad.out.size));have b6:=Hd (au.out.later aq);cases a6 with
 | false=>clear aq i j l o;go_wp2;go_ret;exact⟨by rw[p.out];rfl,ae.out⟩
 | true=>
 clear i j l o;obtain⟨i,j,l,o⟩:=b6.out.four;clear aq;go_wp2_with fail
 refine(K7.out _ ae.out).mono ?_;rintro e w7 ⟨rfl,ar⟩;have b0:=Hd (ae.out.trans (ar.mono ae.out.size));have b7:=Hd (b6.out.later ar);cases a7 with
 | false=>clear ar i j l o;go_wp2;go_ret;exact⟨by rw[p.out];rfl,b0.out⟩
 | true=>
 clear i j l o;obtain⟨i,j,l,o⟩:=b7.out.four;clear ar;go_wp2;go_loopw [4] (fun az wr=>∃k:Nat,k<=C/\az=oH oO ((I:Int)+1+k)/\Hid (g.Ji k)/\Hid (Below w.heap.size w wr)/\Hid (EE wr w.heap.size (.agg #[oG AT I cT,oG AN C cN,oG AR nR cR,oH oO gs]))) (fun az _=>C+I+2-(intOf az).toNat)
 case atStart=>exact⟨0,AX _,oD,Hd (fun be hj=>absurd hj (Nat.not_lt_zero _)),b0,b7⟩
 case round=>
  clear i j l o;obtain⟨k,hk,rfl,HE,J,b9⟩:=hrel;obtain⟨i,j,l,o⟩:=b9.out.four;by_cases bb:k<C
  ·have HO:=Hd (ai.out k)
   have HX:=Hd (af.out k HE.out);have HY:=Hd (ah.out k bb);go_wp2_with fail
   refine(K8.out _ J.out).mono ?_;rintro e w8 ⟨rfl,P⟩;have T:=Hd (J.out.trans (P.mono J.out.size));have b8:=Hd (b9.out.later P);clear i j l o P;obtain⟨i,j,l,o⟩:=b8.out.four;go_wp2_with fail
   refine(HO.out _ T.out).mono ?_;rintro e w9 ⟨A,n,c,rfl,aw,ax,av⟩;have b1:=Hd (T.out.trans (av.mono T.out.size));have ba:=Hd (b8.out.later av);clear i j l o av;cases R:g.R.any (Gm.left ((I:Int)+1+k)) with
   | true=>
    have hn:=aw R;have HN:=Hd (HX.out R);clear aw ax R;go_wp2;go_roundw
    case rel=>exact⟨k+1,nX,oD,HN,b1,ba⟩
    case measure=>simp[intOf];omega
   | false=>have hn:=ax R;have HN:=Hd (HY.out R);subst hn;clear aw ax R;go_wp2;go_ret;exact⟨by rw[p.out,HN.out];rfl,b1.out⟩
  ·obtain rfl:k=C:=by omega
   have HN:=Hd (ag.out HE.out);go_wp2_with fail
   refine(K8.out _ J.out).mono ?_;rintro e w8 ⟨rfl,P⟩;have T:=Hd (J.out.trans (P.mono J.out.size));clear i j l o P;go_wp2;go_ret;exact⟨by rw[p.out,HN.out];rfl,T.out⟩
end
end
variable{g:Gm}{w:oU}
def PG.of(g:Gm):PG:=⟨g.T.map (·.data.toList),g.N.map (·.data.toList),g.s.toNat,g.R.map fun r=>(r.left.toNat,r.right.map Int.toNat)⟩
def OT(h:g.check=0):g.Cm=true/\g.form=true/\g.once=true/\g.known=true/\g.Hr=true/\g.each=true:=by
 unfold Gm.check at h;by_cases i:g.Cm=true
 ·by_cases j:g.form=true
  ·by_cases l:g.once=true
   ·by_cases o:g.known=true
    ·by_cases p:g.Hr=true
     ·by_cases t:g.each=true
      ·exact⟨i,j,l,o,p,t⟩
      ·rw[if_pos i,if_pos j,if_pos l,if_pos o,if_pos p,if_neg t]at h;omega
     ·rw[if_pos i,if_pos j,if_pos l,if_pos o,if_neg p]at h;omega
    ·rw[if_pos i,if_pos j,if_pos l,if_neg o]at h;omega
   ·rw[if_pos i,if_pos j,if_neg l]at h;omega
  ·rw[if_pos i,if_neg j]at h;omega
 ·rw[if_neg i]at h;omega
def nc(i:g.Cm=true)(j:g.form=true)(l:g.once=true)(o:g.known=true)(p:g.Hr=true)(t:g.each=true):g.check=0:=by unfold Gm.check;rw[if_pos i,if_pos j,if_pos l,if_pos o,if_pos p,if_pos t]
theorem findIdx_map{i j:Type}(f:i->j)(p:j->Bool):∀l:List i,(l.map f).findIdx p=l.findIdx (fun x=>p (f x))
 | []=>rfl
 | a::l=>by rw[List.map_cons,List.findIdx_cons,List.findIdx_cons,findIdx_map f p l]
def LY(h:g.known=true){r:Ru}(p:r∈g.R):((g.T.length:Int)<r.left/\r.left<=(g.T.length:Int)+(g.N.length:Int))/\∀s∈r.right,1<=s/\s<=(g.T.length:Int)+(g.N.length:Int):=by unfold Gm.known at h;rw[Bool.and_eq_true]at h;have i:=List.all_eq_true.1 h.2 r p;unfold Gm.Hq at i;rw[Bool.and_eq_true]at i;obtain⟨j,o⟩:=i;unfold Gm.BW at j;rw[Bool.and_eq_true,decide_eq_true_eq,decide_eq_true_eq]at j;refine⟨j,fun s t=>?_⟩;have l:=List.all_eq_true.1 o s t;unfold Gm.sym Gm.term Gm.BW at l;simp only[Bool.or_eq_true,Bool.and_eq_true,decide_eq_true_eq]at l;omega
def Tw(h:g.known=true):(g.T.length:Int)<g.s/\g.s<=(g.T.length:Int)+(g.N.length:Int):=by unfold Gm.known at h;rw[Bool.and_eq_true]at h;have i:=h.1;unfold Gm.BW at i;rw[Bool.and_eq_true,decide_eq_true_eq,decide_eq_true_eq]at i;exact i
def lP(h:g.known=true)(i:Nat):(PG.of g).R.findIdx (fun r=>r.1==(PG.of g).T.length+1+i)=g.first i:=by
 unfold PG.of Gm.first;simp only[lM];rw[findIdx_map];refine O8 fun r j=>?_
 have:=(LY h j).1.1;unfold Gm.left;rw[Bool.eq_iff_iff,beq_iff_eq,beq_iff_eq];omega
def Gm.GC(g:PG)(l:List Ru):Gm:=⟨g.T.map str,g.N.map str,g.s,l⟩
def My(g:PG)(l:List Ru):Prop:=(l.map fun r=>(r.left.toNat,r.right.map Int.toNat))=g.R/\∀r∈l,0<=r.left/\∀s∈r.right,0<=s
def PG.ZT{g:PG}(h:My g l):PG.of (Gm.GC g l)=g:=by
 have e:∀L:List AP,(L.map str).map (·.data.toList)=L:=by intro L;rw[List.map_map];exact(List.map_congr_left (fun a _=>LK a)).trans (List.map_id L)
 unfold PG.of Gm.GC;simp only[e,h.1];rfl
def iF{a b:AP}(h:str a=str b):a=b:=by rw[<-LK a,h,LK]
open Classical in
def YL{g:PG}(t:g.Good)(h:My g l):(Gm.GC g l).check=0/\(Gm.GC g l).ordered=true:=by
 obtain⟨I,a0⟩:=h;have J:(Gm.GC g l).T.length=g.T.length:=lM ..;have C:(Gm.GC g l).N.length=g.N.length:=lM ..;have a8:l.length=g.R.length:=by rw[<-I,lM]
 have a5:∀r∈l,(r.left.toNat,r.right.map Int.toNat)∈g.R:=fun r o=>by rw[<-I];exact List.mem_map_of_mem (f:=fun r:Ru=>(r.left.toNat,r.right.map Int.toNat)) o
 have a7:∀r∈l,((g.T.length:Int)<r.left/\r.left<=(g.T.length:Int)+(g.N.length:Int))/\∀s∈r.right,1<=s/\s<=(g.T.length:Int)+(g.N.length:Int):=by intro r o;obtain⟨⟨k1,P⟩,k3⟩:=t.g9 _ (a5 r o);have hp:=a0 r o;simp only at k1 P k3;refine⟨nX,fun s p=>?_⟩;have:=k3 s.toNat (List.mem_map_of_mem p);have:=hp.2 s p;omega
 have a4:(Gm.GC g l).known=true:=by
  unfold Gm.known;rw[Bool.and_eq_true];refine⟨?_,List.all_eq_true.2 fun r o=>?_⟩
  ·have:=t.g8
   unfold Gm.BW;rw[J,C,Bool.and_eq_true,decide_eq_true_eq,decide_eq_true_eq];show (g.T.length:Int)<(g.s:Int)/\(g.s:Int)<=_;omega
  ·obtain⟨k1,P⟩:=a7 r o
   unfold Gm.Hq;rw[Bool.and_eq_true];refine⟨?_,List.all_eq_true.2 fun s p=>?_⟩
   ·unfold Gm.BW
    rw[J,C,Bool.and_eq_true,decide_eq_true_eq,decide_eq_true_eq];exact k1
   ·unfold Gm.sym Gm.term Gm.BW
    rw[J,C];simp only[Bool.or_eq_true,Bool.and_eq_true,decide_eq_true_eq];have:=P s p;omega
 have a2:∀i,(Gm.GC g l).first i=g.R.findIdx (fun r=>r.1==g.T.length+1+i):=by intro i;have:=lP a4 i;rw[<-this,PG.ZT ⟨I,a0⟩]
 refine⟨nc ?_ ?_ ?_ a4 ?_ ?_,?_⟩
 ·unfold Gm.Cm
  simp only[Bool.and_eq_true,decide_eq_true_eq];refine⟨⟨by rw[J];exact t.g1,by rw[C];exact t.g2⟩,by show l.length<=300;rw[a8];exact t.g3,List.all_eq_true.2 fun r o=>?_⟩;have:=t.g4 _ (a5 r o);unfold IQ;simpa using this
 ·unfold Gm.form
  rw[Bool.and_eq_true];refine⟨List.all_eq_true.2 fun s p=>?_,List.all_eq_true.2 fun s p=>?_⟩
  ·obtain⟨a1,ht,rfl⟩:=List.mem_map.1 p
   unfold Kk;rw[LK];exact t.g5 a1 ht
  ·obtain⟨a1,ht,rfl⟩:=List.mem_map.1 p
   unfold Lq;rw[LK];exact t.g6 a1 ht
 ·unfold Gm.once
  rw[decide_eq_true_eq];show (g.T.map str++g.N.map str).Nodup;rw[<-BB];exact List.pairwise_map.2 (List.Pairwise.imp (fun T e=>T (iF e)) t.g7)
 ·unfold Gm.Hr
  refine decide_eq_true ?_;intro i j x r a6 U o;have a9:=List.pairwise_iff_getElem.1 t.g10;obtain⟨hj,ex⟩:=sG.1 U;obtain⟨R,er⟩:=sG.1 o;have ab:j<l.length:=hj;have aa:i<l.length:=R;have T:=a9 j i nX nX a6;have e1:g.R[j]'(by omega)=(x.left.toNat,x.right.map Int.toNat):=by
   have:g.R[j]?=oM (x.left.toNat,x.right.map Int.toNat):=by rw[<-I,pG,show l[j]?=oM x from U];rfl
   exact(sG.1 this).2
  have e2:g.R[i]'(by omega)=(r.left.toNat,r.right.map Int.toNat):=by
   have:g.R[i]?=oM (r.left.toNat,r.right.map Int.toNat):=by rw[<-I,pG,show l[i]?=oM r from o];rfl
   exact(sG.1 this).2
  rw[e1,e2]at T;cases p:FM x r with
  | false=>rfl
  | true=>exfalso;unfold FM at p;rw[Bool.and_eq_true,beq_iff_eq,beq_iff_eq]at p;exact T (by rw[p.1,p.2])
 ·unfold Gm.each
  refine List.all_eq_true.2 fun i R=>?_
  rw[C]at R;obtain⟨q,hq,he⟩:=t.g11 i (List.mem_range.1 R);rw[<-I]at hq;obtain⟨r,o,rfl⟩:=List.mem_map.1 hq;refine List.any_eq_true.2 ⟨r,o,?_⟩;unfold Gm.left;rw[J,beq_iff_eq];have:=(a0 r o).1;simp only at he;omega
 ·unfold Gm.ordered
  refine decide_eq_true ?_;intro i x y U hy;have a3:∀k z,(Gm.GC g l).Ow[k]?=oM z->k<g.N.length/\z=(((Gm.GC g l).first k:Nat):Int):=by intro k z hz;unfold Gm.Ow at hz;rw[pG]at hz;obtain⟨m,hm,rfl⟩:=Option.map_eq_some_iff.1 hz;obtain⟨hk,e⟩:=sG.1 hm;rw[List.getElem_range]at e;subst e;rw[List.length_range,C]at hk;exact⟨hk,rfl⟩
  obtain⟨k1,rfl⟩:=a3 i x U;obtain⟨P,rfl⟩:=a3 (i+1) y hy;have:=t.g12 i (i+1) nX P;rw[a2,a2];omega
theorem LU{n S:Nat}:∀d k,n-k=d->(∃m:Nat,EX n S k=m/\k<=m/\m<n/\S.testBit m=true/\∀j,k<=j->j<m->S.testBit j=false)\/(EX n S k = -1/\∀j,k<=j->j<n->S.testBit j=false)
 | 0,k,R=>by
  have h:∀j,k<=j->j<n->S.testBit j=false:=fun j l i=>by omega
  exact .inr ⟨Mh h,h⟩
 | d+1,k,R=>by
  cases p:S.testBit k with
  | true=>
   have h:∀j,k<=j->j<k->S.testBit j=false:=fun j l i=>absurd l (Nat.not_le.2 i)
   exact .inl ⟨k,Pj (k:=k) nX p (Ay _) h,Ay _,nX,p,h⟩
  | false=>
   have J:∀j,k<=j->j<k+1->S.testBit j=false:=fun j l i=>by rw[show j=k by omega];exact p
   rcases LU (n:=n) (S:=S) d (k+1) nX with⟨m,l,i,C,I,P⟩|⟨l,i⟩
   ·have o:∀j,k<=j->j<m->S.testBit j=false:=fun j a b=>by
     by_cases t:j<k+1
     ·exact J j a t
     ·exact P j nX b
    exact .inl ⟨m,Pj C I nX o,nX,C,I,o⟩
   ·have o:∀j,k<=j->j<n->S.testBit j=false:=fun j a b=>by
     by_cases t:j<k+1
     ·exact J j a t
     ·exact i j nX b
    exact .inr ⟨Mh o,o⟩
def RD{k d:Nat}(h:∀j,k<=j->j<k+d->S.testBit j=false):((List.range d).map (k+·)).filter (fun i=>S.testBit i)=[]:=by rw[List.filter_eq_nil_iff];intro j l;rw[List.mem_map]at l;obtain⟨i,o,rfl⟩:=l;rw[List.mem_range]at o;rw[h (k+i) nX nX];simp
def mL{k m:Nat}(p:k<=m)(l:S.testBit m=true)(h:∀j,k<=j->j<m->S.testBit j=false):Bs (m+1) S=Bs k S++[m]:=by unfold Bs;rw[show m+1=k+(m-k)+1 by omega,List.range_succ,List.range_add,List.filter_append,List.filter_append,RD (fun j i o=>h j i nX),List.append_nil,show k+(m-k)=m by omega,List.filter_cons,if_pos l];rfl
def iN{k n:Nat}(o:k<=n)(h:∀j,k<=j->j<n->S.testBit j=false):Bs n S=Bs k S:=by unfold Bs;rw[show n=k+(n-k) by omega,List.range_add,List.filter_append,RD (fun j i l=>h j i nX),List.append_nil]
def AY(n:Nat):oV:=oH oO n
def KZ(n S:Nat):(Bs n S).length<=n:=by unfold Bs;exact AW (List.length_filter_le _ _) oA
def Uw{s:AH}(h:AQ w s S):() 191 #[s.v] w fun e w'=>∃o,e=oQ o/\Dp 3 w ((Bs s.n S).map AY) o w':=by
 have HH:=Hd h;have HN:Hid (∀y,Below w w y->∀k:Nat,k<=5000->() 187 #[s.v,oH oO k] y fun e w'=>e=oQ (oH oO (EX s.n S k))/\w'=y):=Hd (fun y T k P=>Ox (h.later T) P);have a4:=h.small;unfold AH.v at *;clear h;have a0:=Hd (HN w (Below.refl _ w) 0 nX);go_enter Tryz.func191,Tryz.ntmps191
 go_wp2_with (go_at_call 187;refine a0.mono ?_;rintro e w' ⟨rfl,rfl⟩)
 rename oU=>w
 go_loopw [3,4] (fun o i wr=>∃k:Nat,k<=s.n/\i=oH oO (EX s.n S k)/\Dp 3 w ((Bs k S).map AY) o wr) (fun _ i _=>if intOf i<0 then 0 else 5000-(intOf i).toNat)
 case atStart=>exact⟨0,AX _,rfl,Dp.nil _ _⟩
 case round=>
  obtain⟨k,P,rfl,A,oc,rfl,t,p⟩:=hrel;rcases LU (n:=s.n) (S:=S) _ k rfl with⟨m,j,l,h3,h4,h5⟩|⟨j,l⟩
  ·have HU:=Hd (mL l h4 h5)
   have a1:Hid (∀y,Below w w y->() 187 #[(s.h,0),oH oO ((m:Int)+1)] y fun e w'=>e=oQ (oH oO (EX s.n S (m+1)))/\w'=y):=Hd (fun y T=>HN y T (m+1) nX);have HS:=Hd (Lu 3 m rfl);have hl:=KZ k S;have a3:EX s.n S (m+1)<0\/(m:Int)+1<=EX s.n S (m+1):=by rcases LU (n:=s.n) (S:=S) _ (m+1) rfl with⟨m2,g1,g2,-⟩|⟨g1,-⟩<;>rw[g1]<;>omega
   have J:=Hd t;have I:=Hd p;rw[j];clear l h4 h5 t p j;generalize R:(Bs k S).map AY=C at *;have a5:C.length<=5000:=by rw[<-R,lM];omega
   have a2:=Hd R;clear R hl;go_wp2_with (first
    | (
      at_builtin;refine DC Md (.tmp 13) (.tmp 15) rfl rfl (base:=w.heap.size) (n:=C.length) (m:=1) (N:=C.length+1) (xs:=C) (news:=[oH oO m]) rfl rfl (J.alloc _) (HS _) rfl oB nX (by have:=I.size;simp;omega) ?_
      intro A2 c2 w2 r1 r2 r3;have U:=Hd (MF (I.trans ((AG _ _).mono I.size)) rfl r1 r2);clear r1 r2 r3)
    | (go_at_call 187;refine(a1 _ U.choose_spec.choose_spec.2.2).mono ?_;rintro e w' ⟨rfl,rfl⟩))
   go_roundw
   case rel=>exact⟨m+1,nX,rfl,by rw[HU.out,BB,a2.out];exact U⟩
   case measure=>
    rw[show intOf (oH oO (m:Int))=(m:Int) from rfl,show intOf (oH oO (EX s.n S (m+1)))=EX s.n S (m+1) from rfl];rw[if_neg (by omega:¬(m:Int)<0)];rcases a3 with h|h
    ·rw[if_pos h];omega
    ·rw[if_neg nX];omega
  ·have HE:=Hd (iN P l)
   have J:Hid (Dp 3 w ((Bs k S).map AY) (oG A ((Bs k S).map AY).length oc) wr):=Hd ⟨A,oc,rfl,t,p⟩;rw[j];clear l t p j;go_wp2_with fail
   go_ret;exact⟨_,rfl,by rw[HE.out];exact J⟩
def VP{s:AH}(h:AQ w s S):() 188 #[s.v] w fun e w'=>∃t:AH,e=oQ t.v/\t.n=s.n/\w.heap.size<=t.h/\w.heap.size<=t.wb/\AQ w' t S/\Below w w w':=by
 obtain⟨c0,c1⟩:=h.cells;have af:=h.small;have a2:=fun y=>Js (P:=Tryz.prog) (t:=267) (e:=264) (z:=oH .u64 0) (bytes:=8) Tryz.underlying267 nZ rfl (l:=((nW s.n:Nat):Int)) (n:=nW s.n) rfl (by unfold nW;omega) (by unfold nW;omega) y
 have a8:=Hd (fun y (hy:Below w w y)=>(h.later hy).src);have a1:=h.head.lt;have o:(CW s.n S).toList.length=nW s.n:=by unfold CW;simp
 have ab:=h.fit;have hm:nW s.n=nW s.n:=rfl;generalize aa:(CW s.n S).toList=i at *;generalize ae:nW s.n=m at *;have P:Hid (Ah (w.alloc (oP (Array.replicate m (oH .u64 0)) 264)) w.heap.size 264 (List.replicate m (oH .u64 0)).toArray):=Hd (by simpa using Ah.new w 264 (Array.replicate m (oH .u64 0)));have d1:(w.alloc (oP (Array.replicate m (oH .u64 0)) 264)).cell? (s.h,1)=oM (oG (s.wb,0) m m):=((AG w _).cell (p:=(s.h,1)) a1).trans c1;have J:=Hd (AG w (oP (Array.replicate m (oH .u64 0)) 264));have R:=Hd (a8 _ J)
 have a6:=Hd a2;unfold AH.v;clear a2 h hm;have ai:=a6 w;generalize p:w.alloc (oP (Array.replicate m (oH .u64 0)) 264)=W at *;have a9:W.heap.size=w.heap.size+1:=by rw[<-p];simp
 have ah:=Hd p;clear p;have a3:∀a4 v,i[a4]?=oM v->oT W (((s.wb,0):Addr).add a4)=oM v:=by
  rcases R.2 with⟨h0,-⟩|⟨ad,c,h0,-,h2⟩
  ·cases h0
  ·cases h0;exact h2
 have T:=run_copy_row (P:=Tryz.prog) W 267 267 3 264 w.heap.size 0 m m (s.wb,0) m m _ 264 i Tryz.underlying267 nZ P (by rw[o];exact(Nat.min_self m).symm) a3 (by simp[o]) R.1;have C:=setRow_heap W w.heap.size _ (List.take 0 (List.replicate m (Value.int .u64 0)).toArray.toList++i++List.drop (0+i.length) (List.replicate m (Value.int .u64 0)).toArray.toList).toArray 264 (0,0) P;have l:=below_setRow J (Ay _) (List.take 0 (List.replicate m (Value.int .u64 0)).toArray.toList++i++List.drop (0+i.length) (List.replicate m (Value.int .u64 0)).toArray.toList).toArray
 have I:(W.setRow w.heap.size (List.take 0 (List.replicate m (Value.int .u64 0)).toArray.toList++i++List.drop (0+i.length) (List.replicate m (Value.int .u64 0)).toArray.toList).toArray).heap.size=W.heap.size:=by simp[World.setRow]
 rw[o]at T;have U:(List.take 0 (List.replicate m (Value.int .u64 0)).toArray.toList++i++List.drop (0+i.length) (List.replicate m (Value.int .u64 0)).toArray.toList).toArray=i.toArray:=by simp[o]
 rw[U]at C l I;rw[show (List.take 0 (List.replicate m (Value.int .u64 0)).toArray.toList++i++List.drop (0+m) (List.replicate m (Value.int .u64 0)).toArray.toList).toArray=i.toArray by simp]at T;generalize W.setRow w.heap.size i.toArray=W2 at *;have e0:=(l.cell (p:=(s.h,0)) a1).trans c0;have a7:=Hd C;have a5:=Hd l;rw[a9]at I;clear C l U a3;generalize a0:w.heap.size=j at *;have ag:=Hd a0;clear a0;go_enter Tryz.func188,Tryz.ntmps188
 go_wp2_with fail
 go_ret;refine⟨⟨j+1,j,s.n⟩,?_,rfl,by show j<=j+1;omega,Ay _,⟨?_,?_,af,ab⟩,?_⟩
 ·rfl
 ·show Ah _ (j+1) _ #[s.n,oG (j,0) (nW s.n) (nW s.n)]
  rw[ae];exact Ah.newAt I
 ·show Ah _ j _ (CW s.n S)
  rw[show CW s.n S=i.toArray by rw[<-aa]];exact Ah.alloc (t:=264) a7 _
 ·exact a5.alloc nX _
