/- . -/
import Derived.Test.YtiljpamcmmeflaaGreatDoorXad
import Derived.Lib.AppendZeros
import Derived.Maps.Own
import Derived.Maps.OwnOps
import Derived.Maps.OwnSet
import Derived.Maps.Views
import Derived.StringKeys
import Derived.Test.YtiljpamcmmeflaaGreatDoorXac
import Derived.Laws.CopyRow
import Derived.Laws.CopyOwn
import Derived.Test.YtiljpamcmmeflaaGreatDoorXnm
set_option linter.all false
set_option maxRecDepth 100000
set_option maxHeartbeats 16000000
namespace Go.Proofs.YtiljpamcmmeflaaGreatDoor
open Go.RowKit
open Value renaming slice→nC,int→nE
open Option renaming some→nJ,none→nK
open IntKind renaming i64→nM
open Obj renaming cells→nO
open Ending renaming returned→nP
open World renaming cell?→nQ
open Go renaming World→nS,Value→nU
variable{B S:Nat}{l:List Ru}{s:Int}
def Tryz.QN:(Tryz.prog.info? 9).map (fun i=>(i.zero,i.size,i.bytes))=nJ (nJ (.string ⟨#[]⟩),1,16):=by kernel_rfl
def N7:El Tryz.prog 55 9 1 16:=El.of Tryz.underlying55 Tryz.QN rfl mT
def Qw(s:ByteArray):(Cc s).oneCell'=true:=rfl
def XZ(n:Nat)(T:n<=4000000)(w:nS):() 178 #[nC nK 0 0,n] w fun e w'=>∃o,e=nP o/\Dp 9 w [] o w':=by
 by_cases h0:n=0
 ·subst h0
  go_enter Tryz.func178,Tryz.ntmps178
  go_wp2;go_ret;exact⟨_,rfl,Dp.nil _ _⟩
 ·obtain⟨i,t,C,a0,I⟩:=info_parts Tryz.QN
  have j:=Lib.run_append_nil_zeros (P:=Tryz.prog) w 55 3 55 9 i (.string ⟨#[]⟩) nM nM Tryz.underlying55 Tryz.underlying3 t C n mR mR mR (by rw[I];omega);have R:=grownCap_ge w n 0 9;have p:grownCap w n 0 9<=maxLen:=grownCap_le_maxLen w n 0 9 mW;generalize grownCap w n 0 9=cap at *;have P:(Builtin.zeroCells (Value.string ⟨#[]⟩).cells n++Builtin.zeroCells (Value.string ⟨#[]⟩).cells (cap-n)).size=cap:=by simp[Builtin.zeroCells,Value.cells];omega
  generalize Builtin.zeroCells (Value.string ⟨#[]⟩).cells n++Builtin.zeroCells (Value.string ⟨#[]⟩).cells (cap-n)=J at *;have U:0<(n:Int):=by omega
  have l:=Hd j;clear j;go_enter Tryz.func178,Tryz.ntmps178
  go_wp2_with (at_builtin;refine Lib.wpList_append_run _ rfl _ _ _ _ rfl _ _ rfl rfl _ _ l ?_)
  go_ret;refine⟨_,rfl,nJ ⟨w.heap.size,0,nK⟩,cap,rfl,?_,?_⟩
  ·exact NO (W:=w.drew) rfl (AF _) p mR
  ·exact LX (AE w _)
def WO(w:nS)(xs j:List nU)(o i:nU)(wr:nS):Prop:=
 (i=nE nM 0/\Dp 9 w [] o wr)\/(i=nE nM 1/\Dp 9 w xs o wr)\/(i=nE nM 2/\Dp 9 w (xs++j) o wr)
def Ys{w:nS}{u v:nU}{a b:List ByteArray}(ha:BD Cc w u a)(hb:BD Cc w v b)(a8:a.length<=1048576)(a9:b.length<=1048576)(hu:nQ w (B,0)=nJ u)(hv:nQ w (B,1)=nJ v) :
  () 137 #[nC (B,0) 2 2] w fun e w'=>∃o,e=nP o/\Dp 9 w ((a++b).map Cc) o w':=by
 have a3:=Hd (fun y (hy:Below w w y)=>(ha.later hy).src Qw);have a4:=Hd (fun y (hy:Below w w y)=>(hb.later hy).src Qw);have HG:=Hd (fun n hn=>XZ n hn w);have hB:=World.block_lt_of_cell? w _ hu;obtain⟨⟨A1,c1,rfl,_⟩,_⟩:=ha;obtain⟨⟨A2,c2,rfl,_⟩,_⟩:=hb;have a5:(a.map Cc).length=a.length:=lM _;have a6:(b.map Cc).length=b.length:=lM _;rw[Bz];generalize a.map Cc=l at *;generalize b.map Cc=p at *;generalize a.length=n at *;generalize b.length=m at *;subst a5;subst a6;have a1:=Hd (HG (l.length+p.length) mR)
 have a7:=N7;clear HG;go_enter Tryz.func137,Tryz.ntmps137
 go_wp2
 go_loop [3,11] (fun s i=>(i=nE nM 0/\s=nE nM 0)\/(i=nE nM 1/\s=nE nM l.length)\/(i=nE nM 2/\s=nE nM ((l.length+p.length:Nat):Int))) (fun _ i=>2-(intOf i).toNat)
 case atStart=>exact .inl ⟨rfl,rfl⟩
 case round=>
  rcases hrel with⟨rfl,rfl⟩|⟨rfl,rfl⟩|⟨rfl,rfl⟩
  ·go_wp2
   go_round
   case rel=>exact .inr (.inl ⟨rfl,rfl⟩)
   case measure=>simp[intOf]
  ·go_wp2
   go_round
   case rel=>exact .inr (.inr ⟨rfl,mY⟩)
   case measure=>simp[intOf]
  ·go_wp2_with fail
   refine a1.mono ?_;rintro e w1 ⟨o,rfl,hO⟩;have t:=Hd hO;clear hO;go_wp2;go_loopw [6,27] (fun o i wr=>Hid (WO w l p o i wr)) (fun _ i _=>2-(intOf i).toNat)
   case atStart=>exact Hd (.inl ⟨rfl,t⟩)
   case round=>
    rcases hrel.out with⟨rfl,A,c,rfl,C,j⟩|⟨rfl,A,c,rfl,C,j⟩|⟨rfl,a0⟩
    ·have t:=Hd C
     have P:=Hd j;have e0:=(j.cell (p:=(B,0)) hB).trans hu;have T:=Hd (a3 wr j);have U:=j.size;clear C j hrel;go_wp2_with (at_builtin;refine Du N7 (.tmp 31) (.tmp 32) rfl rfl (base:=w.heap.size) (n:=0) (m:=l.length) (N:=l.length) (xs:=[]) (news:=l) rfl rfl t T mR mW mR U ?_;intro A2 c2 w2 I J r3;have R:=Hd (My P (xs:=[]) mV I J);clear I J r3)
     go_roundw
     case rel=>exact Hd (.inr (.inl ⟨rfl,R⟩))
     case measure=>simp[intOf]
    ·have t:=Hd C
     have P:=Hd j;have e1:=(j.cell (p:=(B,1)) hB).trans hv;have T:=Hd (a4 wr j);have U:=j.size;clear C j hrel;go_wp2_with (at_builtin;refine Du N7 (.tmp 31) (.tmp 32) rfl rfl (base:=w.heap.size) (n:=l.length) (m:=p.length) (N:=l.length+p.length) (xs:=l) (news:=p) rfl rfl t T rfl mW mR U ?_;intro A2 c2 w2 I J r3;have R:=Hd (My P rfl I J);clear I J r3)
     go_roundw
     case rel=>exact Hd (.inr (.inr ⟨rfl,R⟩))
     case measure=>simp[intOf]
    ·have a2:=Hd a0
     clear a0 hrel;go_wp2;go_ret;exact⟨_,rfl,a2⟩
section
open Go.RowKit Go.Maps
def OW:Keyed Tryz.prog 9:=string_keyed Tryz.underlying9
def eK(w:nS):(zeroValue 3).run Tryz.prog w=.ok (nE nM 0) w:=by kernel_rfl
def kl(s:ByteArray):Lit:=.string s.data.toList
def Zo{a b:ByteArray}(h:kl a=kl b):a=b:=by unfold kl at h;injection h with h;exact ByteArray.ext (Array.ext' h)
structure IQ(D:DataW Unit)(L:List ByteArray)(k:Nat):Prop where
 has:∀s,Maps.has D (kl s)=true<->s∈L.take k
 le:Maps.size D<=k
 nodup:Maps.size D=k<->(L.take k).Nodup
def IQ.start(L:List ByteArray):IQ (.map []) L 0:=⟨fun s=>by simp[Maps.has],by simp[Maps.size],by simp[Maps.size]⟩
def Vq(s:ByteArray):WideAt.IsKeyLit (kl s):=by unfold kl;simp[WideAt.IsKeyLit]
def IQ.next{D:DataW Unit}{L:List ByteArray}{k:Nat}{s:ByteArray}(h:IQ D L k)(P:L[k]?=nJ s)(o:Maps.Tidy D)(d:DataW Unit):IQ (D.put (kl s) d) L (k+1):=by
 obtain⟨J,rfl⟩:=sG.1 P;have p:L.take (k+1)=L.take k++[L[k]]:=List.take_succ_eq_append_getElem J;have l:=Maps.size_put (k:=kl L[k]) o d;refine⟨fun s=>?_,?_,?_⟩
 ·rw[p]
  by_cases e:s=L[k]
  ·subst e
   rw[Maps.has_put_same o.isMap (Vq _)];exact⟨fun _=>List.mem_append_right _ (mS.2 rfl),fun _=>rfl⟩
  ·rw[Maps.has_put_other (fun i=>e (Zo i)),h.has,mA,mS]
   exact⟨.inl,fun i=>i.resolve_right e⟩
 ·have:=h.le
  rw[l];split<;>omega
 ·rw[p,List.nodup_append,l]
  by_cases j:L[k]∈L.take k
  ·rw[if_pos ((h.has _).2 j)]
   have:=h.le;constructor
   ·intro i;omega
   ·rintro⟨_,_,C⟩
    exact absurd rfl (C L[k] j L[k] mV)
  ·rw[if_neg (fun i=>j ((h.has _).1 i))]
   constructor
   ·intro i
    refine⟨h.nodup.1 mR,mV,?_⟩;intro a ha b I;rw[mS.1 I];rintro rfl;exact j ha
   ·rintro⟨t,_,_⟩
    have:=h.nodup.2 t;omega
def IQ.all{D:DataW Unit}{L:List ByteArray}(h:IQ D L L.length):((Maps.size D:Int)==(L.length:Int))=decide L.Nodup:=by have:=h.nodup;rw[List.take_length]at this;rw[Bool.eq_iff_iff,beq_iff_eq,decide_eq_true_eq,<-this];omega
def K0{w y:nS}(h:Below w w y)(o:Obj):Below w w (y.alloc o):=h.alloc h.size o
def Wy{w wr:nS}{o:nU}{L:List ByteArray}{p:Array MapEntry}{clock:Nat}(h:BD Cc w o L)(C:w.heap[B]?=nJ (.map p clock))(j:w.grownBy wr (nJ B)):BD Cc wr o L:=by
 obtain⟨⟨A,c,T,I⟩,R,P⟩:=h;refine⟨⟨A,c,T,fun k x U=>?_⟩,R,P⟩;obtain⟨b,off,t,l,i⟩:=I k x U;refine⟨b,off,t,AK l j.size,?_⟩;have J:b≠B:=by rintro rfl;simp[World.cell?,C]at i
 rw[World.cell?_of_block (w:=w) (j.block b l (by simp[J]))];exact i
def eJ{w wr:nS}{b:Nat}{v:nU}(h:Ek w b v)(o:b≠B)(i:w.grownBy wr (nJ B)):Ek wr b v:=
 ⟨AK h.lt i.size,fun j l=>by rw[World.cell?_of_block (w:=w) (i.block b h.lt (by simp[o]))];exact h.cell j l⟩
def RN{w w':nS}{n:Nat}{D:DataW Unit}(h:w.ownsMap Tryz.prog 9 (plainElem Tryz.prog 3) B n D)(t:Below w w w'):w'.ownsMap Tryz.prog 9 (plainElem Tryz.prog 3) B n D:=by obtain⟨j,clock,i,l,o,p⟩:=h;exact⟨j,clock,by rw[t.block B (aG.1 i).1];exact i,l,o,p⟩
def ly{w:nS}{v:nU}{g:Gm}(h:Ei w v g):() 101 #[v] w (BF w g.once):=by
 have p:=h.small;have au:=p.2.2.1;have ar:=p.2.2.2.1;have b0:=@run_makeMap Tryz.prog;have HG:=Hd (Ek.new w 58 v);have aq:=Hd (fun y (I:Below w w y)=>LO (h.later I));obtain⟨P,U,J,T,AR,cR,rfl,hT,hN,hR⟩:=h.open_;have ah:Hid (∀y B,Below w w y->nQ y ⟨B,0,nK⟩=nJ (nC P g.T.length U)->nQ y ⟨B,1,nK⟩=nJ (nC J g.N.length T)->() 137 #[nC (nJ ⟨B,0,nK⟩) 2 2] y fun e w'=>∃o,e=nP o/\BD Cc w' o (g.T++g.N)/\Below y y w'):=Hd (fun y B I h0 h1=>(Ys (hT.later I) (hN.later I) au ar h0 h1).mono fun e w' ⟨o,he,j⟩=>⟨o,he,j.arr (by rw[BS];omega),j.elim fun _ ⟨_,_,_,hb⟩=>hb⟩)
 have ao:Hid (∀s∈g.T++g.N,s.size<=maxLen):=Hd (fun s i=>by
  unfold maxLen;rcases mA.1 i with hh|hh
  ·have:=p.1 s hh;omega
  ·have:=p.2.1 s hh;omega)
 have ak:Hid ((g.T++g.N).length=g.T.length+g.N.length):=Hd BS;have an:Hid (g.once=decide (g.T++g.N).Nodup):=Hd rfl;clear h hT hN hR p;generalize g.T++g.N=L at *;generalize g.T.length=nT at *;generalize g.N.length=nN at *;generalize g.R.length=nR at *;generalize g.s=gs at *;generalize g.once=b5 at *;go_enter Tryz.func101,Tryz.ntmps101
 go_wp2_with fail
 refine(ah _ _ (K0 (K0 (AE w _) _) _) ?_ ?_).mono ?_
 ·exact(World.cell?_alloc_at _ _ _ _ mV).trans rfl
 ·exact(World.cell?_alloc_at _ _ _ _ mV).trans rfl
 rintro e w2 ⟨o,rfl,j,C⟩;obtain⟨⟨A,c,rfl,hc⟩,_⟩:=id j;have ae:=Hd j;have a1:=World.ownsMap_made (w.alloc (nO #[nC P nT U,nC J nN T,nC AR nR cR,gs] 58)) Tryz.prog 9 (plainElem (H:=Unit) Tryz.prog 3);have a6:(w.alloc (nO #[nC P nT U,nC J nN T,nC AR nR cR,gs] 58)).heap.size=w.heap.size+1:=by simp
 rw[a6]at a1;have a5:=Hd (RN (RN a1 (AE _ _)) C);have R:=Hd ((K0 (K0 (AE w _) _) _).trans (C.mono (K0 (K0 (AE w _) _) _).size));have ai:=Hd ((((HG.later (AE _ _)).later (AE _ _))).later C);have aw:=ak.out;clear C a1 a6 j hc;go_wp2;go_loopw [14] (fun a2 wr=>∃k:Nat,k<=L.length/\a2=nE nM k/\Hid (w2.grownBy wr (nJ (w.heap.size+1)))/\∃D:DataW Unit,Hid (wr.ownsMap Tryz.prog 9 (plainElem Tryz.prog 3) (w.heap.size+1) k D)/\Hid (IQ D L k)) (fun a2 _=>L.length-(intOf a2).toNat)
 case atStart=>exact⟨0,A0 _,rfl,Hd (World.grownBy.refl _ _),_,a5,Hd (IQ.start L)⟩
 case round=>
  obtain⟨k,hk,rfl,l,D,t,HC⟩:=hrel;have b3:=R.size;have b2:=l.size;by_cases ax:k<L.length
  ·have i:=eG ax
   generalize L[k]=s at i;have a4:=Hd (WideMaps.keyOf_string_mk Tryz.underlying9 (ao s (mG i)));obtain⟨es,clock,a8,_⟩:=a5.out;obtain⟨⟨A',c',e,a9⟩,_⟩:=Wy ae a8 l;cases e
   obtain⟨b,off,rfl,az,av⟩:=a9 k s i;have ag:=Hd (fun d=>HC.next i (t.tidy OW) d);clear a8 a9 i;simp only[Cc]at av;go_wp2_with (first
    | (at_lookup;refine wpList_lookup_own_int _ rfl _ _ 65 rfl 9 3 nM OW Tryz.underlying65 Tryz.underlying3 (eK _) (w.heap.size+1) k _ rfl t _ _ rfl a4 ?_;intro c ay b1)
    | (at_mapUpdate;refine wpList_mapUpdate_own _ rfl _ _ _ 65 rfl 9 3 OW Tryz.underlying65 _ (w.heap.size+1) k _ rfl t mW _ _ _ rfl rfl a4 _ [] (plainElem_int Tryz.underlying3 (wrap64_wf _)) ?_;intro w3 ab aa;have aj:=Hd (l.trans aa);have al:=Hd ab;clear ab aa))
   go_roundw
   case rel=>exact⟨k+1,mR,mY,aj,_,al,Hd (ag _)⟩
   case measure=>simp[intOf];omega
  ·obtain rfl:k=L.length:=by omega
   have a0:=R.grown l R.size (fun b4 hj=>by cases hj;omega);obtain⟨d0,d1,d2,d3⟩:=(eJ ai mR l).four;have HT:=Hd (aq wr a0);have ad:=Hd HC.all;have a3:=Hd a0;clear a0;go_wp2_with (first
    | (at_len;refine wpList_len_own _ rfl _ 65 rfl 9 3 Tryz.underlying65 _ (w.heap.size+1) L.length _ rfl t ?_)
    | (go_at_call 22;refine HT.mono ?_;rintro e w4 ⟨rfl,a7⟩;have af:=Hd (a3.trans (a7.mono a3.size));clear a7))
   go_ret;refine⟨C9 ?_,af⟩;rw[an.out,<-ad.out,aw];simp
end
section
open Go.RowKit Go.Maps
theorem lV(h:l.any (Gm.left s)=false)(k:Nat):D0 l s k=[]:=by
 unfold D0;rw[List.map_eq_nil_iff,List.filter_eq_nil_iff];intro i _;cases o:l[i]? with
 | none=>simp
 | some r=>simp only[Option.map_some,Option.getD_some];intro j;have:l.any (Gm.left s)=true:=List.any_eq_true.2 ⟨r,mG o,j⟩;rw[h]at this;cases this
theorem gK(k:Nat)(P:k<=l.length):(k<=l.findIdx (Gm.left s)->D0 l s k=[])/\(l.findIdx (Gm.left s)<k->∃r,D0 l s k=((l.findIdx (Gm.left s):Nat):Int)::r):=by
 induction k with
 | zero=>exact⟨fun _=>rfl,fun h=>absurd h (Nat.not_lt_zero _)⟩
 | succ k J=>
  obtain⟨j,t⟩:=J mR;have i:=eG (show k<l.length by omega);constructor
  ·intro C
   have o:Gm.left s (l[k]'(by omega))=false:=List.not_of_lt_findIdx (p:=Gm.left s) (xs:=l) (i:=k) mR;unfold Gm.left at o;rw[QY i (by simpa using o)];exact j mR
  ·intro C
   by_cases e:l.findIdx (Gm.left s)=k
   ·have p:Gm.left s (l[k]'(by omega))=true:=by
     have:=List.findIdx_getElem (p:=Gm.left s) (xs:=l) (w:=by omega);simpa only[e] using this
    unfold Gm.left at p;rw[Uj i (by simpa using p),j mR];exact⟨[],by rw[List.nil_append,e]⟩
   ·obtain⟨r,I⟩:=t mR
    rw[N3 i,I];exact⟨_,List.cons_append⟩
def Yj(h:l.any (Gm.left s)=true):∃r,D0 l s l.length=((l.findIdx (Gm.left s):Nat):Int)::r:=by refine(gK l.length (AF _)).2 (List.findIdx_lt_length_of_exists ?_);obtain⟨x,j,i⟩:=List.any_eq_true.1 h;exact⟨x,j,i⟩
def OO{F:Nat}{a:nU}{y:nS}{P:Ending->nS->Prop}(h:() F #[a] y P):() F (#[a]++#[]) y P:=h
def Gm.I4(g:Gm)(k:Nat):Prop:=∀j,j<k->g.R.any (Gm.left ((g.T.length:Int)+1+j))=true
def Gm.I4.next{g:Gm}{k:Nat}(h:g.I4 k)(i:g.R.any (Gm.left ((g.T.length:Int)+1+k))=true):g.I4 (k+1):=by
 intro j l;by_cases e:j=k
 ·subst e;exact i
 ·exact h j mR
def Gm.I4.all{g:Gm}(h:g.I4 g.N.length):g.each=true:=by unfold Gm.each;rw[List.all_eq_true];exact fun j i=>h j (List.mem_range.1 i)
theorem lW{g:Gm}{k:Nat}(j:k<g.N.length)(h:g.R.any (Gm.left ((g.T.length:Int)+1+k))=false):g.each=false:=by
 cases i:g.each with
 | false=>rfl
 | true=>unfold Gm.each at i;rw[List.all_eq_true]at i;have:=i k (List.mem_range.2 j);rw[h]at this;cases this
def Ends(w:nS)(n:Int)(e:Ending)(w':nS):Prop:=e=nP n/\Below w w w'
section
variable {w:nS} {v:nU} {g:Gm}
structure NK(w:nS)(AT AN AR:Option Addr)(cT cN cR:Nat)(v:nU)(g:Gm):Prop where
 short:∀y,Below w w y->() 96 #[nC AR g.R.length cR,.func (.func 95) #[] #[]] y (BF y (g.R.all Iu))
 Ty:∀y,Below w w y->() 97 #[nC AT g.T.length cT,.func (.func 98) #[] #[]] y (BF y (g.T.all J9))
 Ra:∀y,Below w w y->() 97 #[nC AN g.N.length cN,.func (.func 99) #[] #[]] y (BF y (g.N.all Kf))
 once:∀y,Below w w y->() 101 #[v] y (BF y g.once)
 BK:∀y,Below w w y->() 52 #[v,g.s] y (BF y (g.BK g.s))
 known:∀y B,Below w w y->Ek y B v->() 96 #[nC AR g.R.length cR,.func (.func 102) #[] #[.pointer (nJ ⟨B,0,nK⟩)]] y (BF y (g.R.all g.Hg))
 G0:∀y,Below w w y->() 104 #[nC AR g.R.length cR,.func (.func 105) #[] #[]] y (BF y g.G0)
 top:∀y,Below w w y->() 22 #[v] y (Ends y ((g.T.length:Int)+(g.N.length:Int)))
 of:∀y s,Below w w y->() 106 #[v,nE nM s] y (fun e w'=>∃A c,e=nP (nC A (D0 g.R s g.R.length).length c)/\Below y y w')
def TW{C p t:Option Addr}{P I J:Nat}(h:Ei w v g)(U:BD Cc w (nC C g.T.length P) g.T)(T:BD Cc w (nC p g.N.length I) g.N)(o:E4 w (nC t g.R.length J) g.R):NK w C p t P I J v g where
 short:=fun y i=>Qt (o.later i) Iu 95 #[] (fun _ _=>by kernel_rfl) (fun x j z l=>OO (WQ x z ((o.mem j).later (i.trans (l.mono i.size)))))
 Ty:=fun y i=>QW (U.later i) J9 98 #[] (fun _ _=>by kernel_rfl) (fun x j z l=>OO (Yy x (by have:=h.small.1 x j;omega) z))
 Ra:=fun y i=>QW (T.later i) Kf 99 #[] (fun _ _=>by kernel_rfl) (fun x j z l=>OO (Rf x (by have:=h.small.2.1 x j;omega) z))
 once:=fun y i=>ly (h.later i)
 BK:=fun y i=>Lu (h.later i) g.s
 known:=fun y B i R=>Qt (o.later i) g.Hg 102 #[.pointer (nJ ⟨B,0,nK⟩)] (fun _ _=>by kernel_rfl) (fun x j z l=>cX h (o.mem j) (i.trans (l.mono i.size)) (R.later l))
 G0:=fun y i=>cV (o.later i)
 top:=fun y i=>LO (h.later i)
 of:=fun y s i=>(Qx (h.later i) s).mono fun e w' ⟨a0,he,A,c,ho,_,hb⟩=>⟨A,c,by rw[he,ho,lM],Et hb⟩
def NK.aY{o j l:Option Addr}{C p t:Nat}(h:NK w o j l C p t v g)(k:Nat)(y:nS)(R:Below w w y):() 106 #[v,nE nM ((g.T.length:Int)+1+k)] y (fun e w'=>∃A n c,e=nP (nC A n c)/\(g.R.any (Gm.left ((g.T.length:Int)+1+k))=true->((n:Int)==0)=false)/\(g.R.any (Gm.left ((g.T.length:Int)+1+k))=false->n=0)/\Below y y w'):=
 (h.of y _ R).mono fun e w' ⟨A,c,J,I⟩=>⟨A,_,c,J,fun i=>by obtain⟨r,P⟩:=Yj i;rw[P,bN,List.length_cons];omega,fun i=>by rw[lV i];rfl,I⟩
def QE(h:Ei w v g):Calls Tryz.prog 68 #[v] w (Ends w g.check):=by
 have ay:=h.small;have bd:=ay.2.2.1;have bc:=ay.2.2.2.1;have HG:=Hd (Ek.new w 58 v);obtain⟨AT,cT,AN,cN,AR,cR,rfl,hT,hN,hR⟩:=h.open_;have t:=Hd (TW h hT hN hR);have ai:=Hd (fun k=>(TW h hT hN hR).aY k);have af:=Hd (fun k=>@Gm.I4.next g k);have ag:=Hd (@Gm.I4.all g);have ah:=Hd (fun k=>@lW g k);have p:Hid (g.check=if ((decide (g.T.length<=120)&&decide (g.N.length<=120))&&(decide (g.R.length<=300)&&g.R.all Iu)) then(if (g.T.all J9&&g.N.all Kf) then(if g.once then(if (g.BK g.s&&g.R.all g.Hg) then(if g.G0 then(if g.each then 0 else 9) else 8) else 1) else 8) else 10) else 7):=Hd rfl
 clear h hT hN hR ay;by_cases q1:g.T.length<=120
 case neg=>
  rw[decide_eq_false q1]at p;have U:Hid (g.check=7):=Hd (by rw[p.out];simp);clear p t ai af ag ah;generalize g.T.length=I at *;generalize g.N.length=C at *;generalize g.R.length=nR at *;go_enter Tryz.func68,Tryz.ntmps68
  go_wp2;go_ret;exact⟨by rw[U.out];rfl,AE _ _⟩
 rw[decide_eq_true q1]at p;by_cases q2:g.N.length<=120
 case neg=>
  rw[decide_eq_false q2]at p;have U:Hid (g.check=7):=Hd (by rw[p.out];simp);clear p t ai af ag ah;generalize g.T.length=I at *;generalize g.N.length=C at *;generalize g.R.length=nR at *;go_enter Tryz.func68,Tryz.ntmps68
  go_wp2;go_ret;exact⟨by rw[U.out];rfl,AE _ _⟩
 rw[decide_eq_true q2]at p;by_cases q3:g.R.length<=300
 case neg=>
  rw[decide_eq_false q3]at p;have U:Hid (g.check=7):=Hd (by rw[p.out];simp);clear p t ai af ag ah;generalize g.T.length=I at *;generalize g.N.length=C at *;generalize g.R.length=nR at *;go_enter Tryz.func68,Tryz.ntmps68
  go_wp2;go_ret;exact⟨by rw[U.out];rfl,AE _ _⟩
 rw[decide_eq_true q3]at p;have K1:=Hd t.out.short;have K2:=Hd t.out.Ty;have K3:=Hd t.out.Ra;have K4:=Hd t.out.once;have K5:=Hd t.out.BK;have K6:=Hd t.out.known;have K7:=Hd t.out.G0;have K8:=Hd t.out.top;clear t;generalize g.R.all Iu=a1 at *;generalize g.T.all J9=a2 at *;generalize g.N.all Kf=a3 at *;generalize g.once=a4 at *;generalize g.BK g.s=a5 at *;generalize g.R.all g.Hg=a6 at *;generalize g.G0=a7 at *;generalize g.each=a8 at *;generalize g.check=bf at *;generalize g.T.length=I at *;generalize g.N.length=C at *
 generalize g.R.length=nR at *;generalize g.s=gs at *;go_enter Tryz.func68,Tryz.ntmps68
 go_wp2_with fail
 refine(K1.out _ (AE w _)).mono ?_;rintro e w1 ⟨rfl,aj⟩;have a0:=Hd (Et aj);have b2:=Hd (HG.out.later aj);cases a1 with
 | false=>clear aj;go_wp2;go_ret;exact⟨by rw[p.out];rfl,a0.out⟩
 | true=>
 obtain⟨i,j,l,o⟩:=b2.out.four;clear aj;go_wp2_with fail
 refine(K2.out _ a0.out).mono ?_;rintro e w2 ⟨rfl,ak⟩;have a9:=Hd (a0.out.trans (ak.mono a0.out.size));have b3:=Hd (b2.out.later ak);cases a2 with
 | false=>clear ak i j l o;go_wp2;go_ret;exact⟨by rw[p.out];rfl,a9.out⟩
 | true=>
 clear i j l o;obtain⟨i,j,l,o⟩:=b3.out.four;clear ak;go_wp2_with fail
 refine(K3.out _ a9.out).mono ?_;rintro e w3 ⟨rfl,al⟩;have aa:=Hd (a9.out.trans (al.mono a9.out.size));have b4:=Hd (b3.out.later al);cases a3 with
 | false=>clear al i j l o;go_wp2;go_ret;exact⟨by rw[p.out];rfl,aa.out⟩
 | true=>
 clear i j l o;obtain⟨i,j,l,o⟩:=b4.out.four;clear al;go_wp2_with fail
 refine(K4.out _ aa.out).mono ?_;rintro e w4 ⟨rfl,an⟩;have ab:=Hd (aa.out.trans (an.mono aa.out.size));have b5:=Hd (b4.out.later an);cases a4 with
 | false=>clear an i j l o;go_wp2;go_ret;exact⟨by rw[p.out];rfl,ab.out⟩
 | true=>
 clear i j l o;obtain⟨i,j,l,o⟩:=b5.out.four;clear an;go_wp2_with fail
 refine(K5.out _ ab.out).mono ?_;rintro e w5 ⟨rfl,ao⟩;have ad:=Hd (ab.out.trans (ao.mono ab.out.size));have au:=Hd (b5.out.later ao);cases a5 with
 | false=>clear ao i j l o;go_wp2;go_ret;exact⟨by rw[p.out];rfl,ad.out⟩
 | true=>
 clear i j l o;obtain⟨i,j,l,o⟩:=au.out.four;clear ao;go_wp2_with fail
 refine(K6.out _ _ ad.out au.out).mono ?_;rintro e w6 ⟨rfl,aq⟩;have ae:=Hd (ad.out.trans (aq.mono ad.out.size));have b6:=Hd (au.out.later aq);cases a6 with
 | false=>clear aq i j l o;go_wp2;go_ret;exact⟨by rw[p.out];rfl,ae.out⟩
 | true=>
 clear i j l o;obtain⟨i,j,l,o⟩:=b6.out.four;clear aq;go_wp2_with fail
 refine(K7.out _ ae.out).mono ?_;rintro e w7 ⟨rfl,ar⟩;have b0:=Hd (ae.out.trans (ar.mono ae.out.size));have b7:=Hd (b6.out.later ar);cases a7 with
 | false=>clear ar i j l o;go_wp2;go_ret;exact⟨by rw[p.out];rfl,b0.out⟩
 | true=>
 clear i j l o;obtain⟨i,j,l,o⟩:=b7.out.four;clear ar;go_wp2;go_loopw [4] (fun az wr=>∃k:Nat,k<=C/\az=nE nM ((I:Int)+1+k)/\Hid (g.I4 k)/\Hid (Below w.heap.size w wr)/\Hid (Ek wr w.heap.size (.agg #[nC AT I cT,nC AN C cN,nC AR nR cR,nE nM gs]))) (fun az _=>C+I+2-(intOf az).toNat)
 case atStart=>exact⟨0,A0 _,mY,Hd (fun be hj=>absurd hj (Nat.not_lt_zero _)),b0,b7⟩
 case round=>
  clear i j l o;obtain⟨k,hk,rfl,HE,J,b9⟩:=hrel;obtain⟨i,j,l,o⟩:=b9.out.four;by_cases bb:k<C
  ·have HO:=Hd (ai.out k)
   have HX:=Hd (af.out k HE.out);have HY:=Hd (ah.out k bb);go_wp2_with fail
   refine(K8.out _ J.out).mono ?_;rintro e w8 ⟨rfl,P⟩;have T:=Hd (J.out.trans (P.mono J.out.size));have b8:=Hd (b9.out.later P);clear i j l o P;obtain⟨i,j,l,o⟩:=b8.out.four;go_wp2_with fail
   refine(HO.out _ T.out).mono ?_;rintro e w9 ⟨A,n,c,rfl,aw,ax,av⟩;have b1:=Hd (T.out.trans (av.mono T.out.size));have ba:=Hd (b8.out.later av);clear i j l o av;cases R:g.R.any (Gm.left ((I:Int)+1+k)) with
   | true=>
    have hn:=aw R;have HN:=Hd (HX.out R);clear aw ax R;go_wp2;go_roundw
    case rel=>exact⟨k+1,mR,mY,HN,b1,ba⟩
    case measure=>simp[intOf];omega
   | false=>have hn:=ax R;have HN:=Hd (HY.out R);subst hn;clear aw ax R;go_wp2;go_ret;exact⟨by rw[p.out,HN.out];rfl,b1.out⟩
  ·obtain rfl:k=C:=by omega
   have HN:=Hd (ag.out HE.out);go_wp2_with fail
   refine(K8.out _ J.out).mono ?_;rintro e w8 ⟨rfl,P⟩;have T:=Hd (J.out.trans (P.mono J.out.size));clear i j l o P;go_wp2;go_ret;exact⟨by rw[p.out,HN.out];rfl,T.out⟩
end
end
variable{g:Gm}{w:nS}
def PG.of(g:Gm):PG:=⟨g.T.map (·.data.toList),g.N.map (·.data.toList),g.s.toNat,g.R.map fun r=>(r.left.toNat,r.right.map Int.toNat)⟩
def Ou(h:g.check=0):g.B7=true/\g.form=true/\g.once=true/\g.known=true/\g.G0=true/\g.each=true:=by
 unfold Gm.check at h;by_cases i:g.B7=true
 ·by_cases j:g.form=true
  ·by_cases l:g.once=true
   ·by_cases o:g.known=true
    ·by_cases p:g.G0=true
     ·by_cases t:g.each=true
      ·exact⟨i,j,l,o,p,t⟩
      ·rw[if_pos i,if_pos j,if_pos l,if_pos o,if_pos p,if_neg t]at h;omega
     ·rw[if_pos i,if_pos j,if_pos l,if_pos o,if_neg p]at h;omega
    ·rw[if_pos i,if_pos j,if_pos l,if_neg o]at h;omega
   ·rw[if_pos i,if_pos j,if_neg l]at h;omega
  ·rw[if_pos i,if_neg j]at h;omega
 ·rw[if_neg i]at h;omega
def fD(i:g.B7=true)(j:g.form=true)(l:g.once=true)(o:g.known=true)(p:g.G0=true)(t:g.each=true):g.check=0:=by unfold Gm.check;rw[if_pos i,if_pos j,if_pos l,if_pos o,if_pos p,if_pos t]
theorem findIdx_map{i j:Type}(f:i->j)(p:j->Bool):∀l:List i,(l.map f).findIdx p=l.findIdx (fun x=>p (f x))
 | []=>rfl
 | a::l=>by rw[List.map_cons,List.findIdx_cons,List.findIdx_cons,findIdx_map f p l]
def LG(h:g.known=true){r:Ru}(p:r∈g.R):((g.T.length:Int)<r.left/\r.left<=(g.T.length:Int)+(g.N.length:Int))/\∀s∈r.right,1<=s/\s<=(g.T.length:Int)+(g.N.length:Int):=by unfold Gm.known at h;rw[Bool.and_eq_true]at h;have i:=List.all_eq_true.1 h.2 r p;unfold Gm.Hg at i;rw[Bool.and_eq_true]at i;obtain⟨j,o⟩:=i;unfold Gm.BK at j;rw[Bool.and_eq_true,decide_eq_true_eq,decide_eq_true_eq]at j;refine⟨j,fun s t=>?_⟩;have l:=List.all_eq_true.1 o s t;unfold Gm.sym Gm.term Gm.BK at l;simp only[Bool.or_eq_true,Bool.and_eq_true,decide_eq_true_eq]at l;omega
def UE(h:g.known=true):(g.T.length:Int)<g.s/\g.s<=(g.T.length:Int)+(g.N.length:Int):=by unfold Gm.known at h;rw[Bool.and_eq_true]at h;have i:=h.1;unfold Gm.BK at i;rw[Bool.and_eq_true,decide_eq_true_eq,decide_eq_true_eq]at i;exact i
def ZD(h:g.known=true)(i:Nat):(PG.of g).R.findIdx (fun r=>r.1==(PG.of g).T.length+1+i)=g.first i:=by
 unfold PG.of Gm.first;simp only[lM];rw[findIdx_map];refine NJ fun r j=>?_
 have:=(LG h j).1.1;unfold Gm.left;rw[Bool.eq_iff_iff,beq_iff_eq,beq_iff_eq];omega
def Gm.Ds(g:PG)(l:List Ru):Gm:=⟨g.T.map str,g.N.map str,g.s,l⟩
def MH(g:PG)(l:List Ru):Prop:=(l.map fun r=>(r.left.toNat,r.right.map Int.toNat))=g.R/\∀r∈l,0<=r.left/\∀s∈r.right,0<=s
def PG.iJ{g:PG}(h:MH g l):PG.of (Gm.Ds g l)=g:=by
 have e:∀L:List AM,(L.map str).map (·.data.toList)=L:=by intro L;rw[List.map_map];exact(List.map_congr_left (fun a _=>Ly a)).trans (List.map_id L)
 unfold PG.of Gm.Ds;simp only[e,h.1];rfl
def aQ{a b:AM}(h:str a=str b):a=b:=by rw[<-Ly a,h,Ly]
open Classical in
def XI{g:PG}(t:g.Good)(h:MH g l):(Gm.Ds g l).check=0/\(Gm.Ds g l).ordered=true:=by
 obtain⟨I,a0⟩:=h;have J:(Gm.Ds g l).T.length=g.T.length:=lM ..;have C:(Gm.Ds g l).N.length=g.N.length:=lM ..;have a8:l.length=g.R.length:=by rw[<-I,lM]
 have a5:∀r∈l,(r.left.toNat,r.right.map Int.toNat)∈g.R:=fun r o=>by rw[<-I];exact List.mem_map_of_mem (f:=fun r:Ru=>(r.left.toNat,r.right.map Int.toNat)) o
 have a7:∀r∈l,((g.T.length:Int)<r.left/\r.left<=(g.T.length:Int)+(g.N.length:Int))/\∀s∈r.right,1<=s/\s<=(g.T.length:Int)+(g.N.length:Int):=by intro r o;obtain⟨⟨k1,P⟩,k3⟩:=t.g9 _ (a5 r o);have hp:=a0 r o;simp only at k1 P k3;refine⟨mR,fun s p=>?_⟩;have:=k3 s.toNat (List.mem_map_of_mem p);have:=hp.2 s p;omega
 have a4:(Gm.Ds g l).known=true:=by
  unfold Gm.known;rw[Bool.and_eq_true];refine⟨?_,List.all_eq_true.2 fun r o=>?_⟩
  ·have:=t.g8
   unfold Gm.BK;rw[J,C,Bool.and_eq_true,decide_eq_true_eq,decide_eq_true_eq];show (g.T.length:Int)<(g.s:Int)/\(g.s:Int)<=_;omega
  ·obtain⟨k1,P⟩:=a7 r o
   unfold Gm.Hg;rw[Bool.and_eq_true];refine⟨?_,List.all_eq_true.2 fun s p=>?_⟩
   ·unfold Gm.BK
    rw[J,C,Bool.and_eq_true,decide_eq_true_eq,decide_eq_true_eq];exact k1
   ·unfold Gm.sym Gm.term Gm.BK
    rw[J,C];simp only[Bool.or_eq_true,Bool.and_eq_true,decide_eq_true_eq];have:=P s p;omega
 have a2:∀i,(Gm.Ds g l).first i=g.R.findIdx (fun r=>r.1==g.T.length+1+i):=by intro i;have:=ZD a4 i;rw[<-this,PG.iJ ⟨I,a0⟩]
 refine⟨fD ?_ ?_ ?_ a4 ?_ ?_,?_⟩
 ·unfold Gm.B7
  simp only[Bool.and_eq_true,decide_eq_true_eq];refine⟨⟨by rw[J];exact t.g1,by rw[C];exact t.g2⟩,by show l.length<=300;rw[a8];exact t.g3,List.all_eq_true.2 fun r o=>?_⟩;have:=t.g4 _ (a5 r o);unfold Iu;simpa using this
 ·unfold Gm.form
  rw[Bool.and_eq_true];refine⟨List.all_eq_true.2 fun s p=>?_,List.all_eq_true.2 fun s p=>?_⟩
  ·obtain⟨a1,ht,rfl⟩:=List.mem_map.1 p
   unfold J9;rw[Ly];exact t.g5 a1 ht
  ·obtain⟨a1,ht,rfl⟩:=List.mem_map.1 p
   unfold Kf;rw[Ly];exact t.g6 a1 ht
 ·unfold Gm.once
  rw[decide_eq_true_eq];show (g.T.map str++g.N.map str).Nodup;rw[<-Bz];exact List.pairwise_map.2 (List.Pairwise.imp (fun T e=>T (aQ e)) t.g7)
 ·unfold Gm.G0
  refine decide_eq_true ?_;intro i j x r a6 U o;have a9:=List.pairwise_iff_getElem.1 t.g10;obtain⟨hj,ex⟩:=sG.1 U;obtain⟨R,er⟩:=sG.1 o;have ab:j<l.length:=hj;have aa:i<l.length:=R;have T:=a9 j i mR mR a6;have e1:g.R[j]'(by omega)=(x.left.toNat,x.right.map Int.toNat):=by
   have:g.R[j]?=nJ (x.left.toNat,x.right.map Int.toNat):=by rw[<-I,pG,show l[j]?=nJ x from U];rfl
   exact(sG.1 this).2
  have e2:g.R[i]'(by omega)=(r.left.toNat,r.right.map Int.toNat):=by
   have:g.R[i]?=nJ (r.left.toNat,r.right.map Int.toNat):=by rw[<-I,pG,show l[i]?=nJ r from o];rfl
   exact(sG.1 this).2
  rw[e1,e2]at T;cases p:Fv x r with
  | false=>rfl
  | true=>exfalso;unfold Fv at p;rw[Bool.and_eq_true,beq_iff_eq,beq_iff_eq]at p;exact T (by rw[p.1,p.2])
 ·unfold Gm.each
  refine List.all_eq_true.2 fun i R=>?_
  rw[C]at R;obtain⟨q,hq,he⟩:=t.g11 i (List.mem_range.1 R);rw[<-I]at hq;obtain⟨r,o,rfl⟩:=List.mem_map.1 hq;refine List.any_eq_true.2 ⟨r,o,?_⟩;unfold Gm.left;rw[J,beq_iff_eq];have:=(a0 r o).1;simp only at he;omega
 ·unfold Gm.ordered
  refine decide_eq_true ?_;intro i x y U hy;have a3:∀k z,(Gm.Ds g l).OC[k]?=nJ z->k<g.N.length/\z=(((Gm.Ds g l).first k:Nat):Int):=by intro k z hz;unfold Gm.OC at hz;rw[pG]at hz;obtain⟨m,hm,rfl⟩:=Option.map_eq_some_iff.1 hz;obtain⟨hk,e⟩:=sG.1 hm;rw[List.getElem_range]at e;subst e;rw[List.length_range,C]at hk;exact⟨hk,rfl⟩
  obtain⟨k1,rfl⟩:=a3 i x U;obtain⟨P,rfl⟩:=a3 (i+1) y hy;have:=t.g12 i (i+1) mR P;rw[a2,a2];omega
theorem LS{n S:Nat}:∀d k,n-k=d->(∃m:Nat,EU n S k=m/\k<=m/\m<n/\S.testBit m=true/\∀j,k<=j->j<m->S.testBit j=false)\/(EU n S k = -1/\∀j,k<=j->j<n->S.testBit j=false)
 | 0,k,R=>by
  have h:∀j,k<=j->j<n->S.testBit j=false:=fun j l i=>by omega
  exact .inr ⟨LR h,h⟩
 | d+1,k,R=>by
  cases p:S.testBit k with
  | true=>
   have h:∀j,k<=j->j<k->S.testBit j=false:=fun j l i=>absurd l (Nat.not_le.2 i)
   exact .inl ⟨k,Om (k:=k) mR p (AF _) h,AF _,mR,p,h⟩
  | false=>
   have J:∀j,k<=j->j<k+1->S.testBit j=false:=fun j l i=>by rw[show j=k by omega];exact p
   rcases LS (n:=n) (S:=S) d (k+1) mR with⟨m,l,i,C,I,P⟩|⟨l,i⟩
   ·have o:∀j,k<=j->j<m->S.testBit j=false:=fun j a b=>by
     by_cases t:j<k+1
     ·exact J j a t
     ·exact P j mR b
    exact .inl ⟨m,Om C I mR o,mR,C,I,o⟩
   ·have o:∀j,k<=j->j<n->S.testBit j=false:=fun j a b=>by
     by_cases t:j<k+1
     ·exact J j a t
     ·exact i j mR b
    exact .inr ⟨LR o,o⟩
def SJ{k d:Nat}(h:∀j,k<=j->j<k+d->S.testBit j=false):((List.range d).map (k+·)).filter (fun i=>S.testBit i)=[]:=by rw[List.filter_eq_nil_iff];intro j l;rw[List.mem_map]at l;obtain⟨i,o,rfl⟩:=l;rw[List.mem_range]at o;rw[h (k+i) mR mR];simp
def Zt{k m:Nat}(p:k<=m)(l:S.testBit m=true)(h:∀j,k<=j->j<m->S.testBit j=false):Bq (m+1) S=Bq k S++[m]:=by unfold Bq;rw[show m+1=k+(m-k)+1 by omega,List.range_succ,List.range_add,List.filter_append,List.filter_append,SJ (fun j i o=>h j i mR),List.append_nil,show k+(m-k)=m by omega,List.filter_cons,if_pos l];rfl
def jQ{k n:Nat}(o:k<=n)(h:∀j,k<=j->j<n->S.testBit j=false):Bq n S=Bq k S:=by unfold Bq;rw[show n=k+(n-k) by omega,List.range_add,List.filter_append,SJ (fun j i l=>h j i mR),List.append_nil]
def AS(n:Nat):nU:=nE nM n
def Le(n S:Nat):(Bq n S).length<=n:=by unfold Bq;exact AY (List.length_filter_le _ _) mV
def PV{s:AH}(h:AU w s S):() 199 #[s.v] w fun e w'=>∃o,e=nP o/\Dp 3 w ((Bq s.n S).map AS) o w':=by
 have HH:=Hd h;have HN:Hid (∀y,Below w w y->∀k:Nat,k<=5000->() 195 #[s.v,nE nM k] y fun e w'=>e=nP (nE nM (EU s.n S k))/\w'=y):=Hd (fun y T k P=>Oy (h.later T) P);have a4:=h.small;unfold AH.v at *;clear h;have a0:=Hd (HN w (Below.refl _ w) 0 mR);go_enter Tryz.func199,Tryz.ntmps199
 go_wp2_with (go_at_call 195;refine a0.mono ?_;rintro e w' ⟨rfl,rfl⟩)
 rename nS=>w
 go_loopw [3,4] (fun o i wr=>∃k:Nat,k<=s.n/\i=nE nM (EU s.n S k)/\Dp 3 w ((Bq k S).map AS) o wr) (fun _ i _=>if intOf i<0 then 0 else 5000-(intOf i).toNat)
 case atStart=>exact⟨0,A0 _,rfl,Dp.nil _ _⟩
 case round=>
  obtain⟨k,P,rfl,A,oc,rfl,t,p⟩:=hrel;rcases LS (n:=s.n) (S:=S) _ k rfl with⟨m,j,l,h3,h4,h5⟩|⟨j,l⟩
  ·have HU:=Hd (Zt l h4 h5)
   have a1:Hid (∀y,Below w w y->() 195 #[(s.h,0),nE nM ((m:Int)+1)] y fun e w'=>e=nP (nE nM (EU s.n S (m+1)))/\w'=y):=Hd (fun y T=>HN y T (m+1) mR);have HS:=Hd (Md 3 m rfl);have hl:=Le k S;have a3:EU s.n S (m+1)<0\/(m:Int)+1<=EU s.n S (m+1):=by rcases LS (n:=s.n) (S:=S) _ (m+1) rfl with⟨m2,g1,g2,-⟩|⟨g1,-⟩<;>rw[g1]<;>omega
   have J:=Hd t;have I:=Hd p;rw[j];clear l h4 h5 t p j;generalize R:(Bq k S).map AS=C at *;have a5:C.length<=5000:=by rw[<-R,lM];omega
   have a2:=Hd R;clear R hl;go_wp2_with (first
    | (
      at_builtin;refine Du LH (.tmp 13) (.tmp 15) rfl rfl (base:=w.heap.size) (n:=C.length) (m:=1) (N:=C.length+1) (xs:=C) (news:=[nE nM m]) rfl rfl (J.alloc _) (HS _) rfl mW mR (by have:=I.size;simp;omega) ?_
      intro A2 c2 w2 r1 r2 r3;have U:=Hd (My (I.trans ((AE _ _).mono I.size)) rfl r1 r2);clear r1 r2 r3)
    | (go_at_call 195;refine(a1 _ U.choose_spec.choose_spec.2.2).mono ?_;rintro e w' ⟨rfl,rfl⟩))
   go_roundw
   case rel=>exact⟨m+1,mR,rfl,by rw[HU.out,Bz,a2.out];exact U⟩
   case measure=>
    rw[show intOf (nE nM (m:Int))=(m:Int) from rfl,show intOf (nE nM (EU s.n S (m+1)))=EU s.n S (m+1) from rfl];rw[if_neg (by omega:¬(m:Int)<0)];rcases a3 with h|h
    ·rw[if_pos h];omega
    ·rw[if_neg mR];omega
  ·have HE:=Hd (jQ P l)
   have J:Hid (Dp 3 w ((Bq k S).map AS) (nC A ((Bq k S).map AS).length oc) wr):=Hd ⟨A,oc,rfl,t,p⟩;rw[j];clear l t p j;go_wp2_with fail
   go_ret;exact⟨_,rfl,by rw[HE.out];exact J⟩
def Wx{s:AH}(h:AU w s S):() 196 #[s.v] w fun e w'=>∃t:AH,e=nP t.v/\t.n=s.n/\w.heap.size<=t.h/\w.heap.size<=t.wb/\AU w' t S/\Below w w w':=by
 obtain⟨c0,c1⟩:=h.cells;have af:=h.small;have a2:=fun y=>Ji (P:=Tryz.prog) (t:=294) (e:=291) (z:=nE .u64 0) (bytes:=8) Tryz.underlying294 mU rfl (l:=((nW s.n:Nat):Int)) (n:=nW s.n) rfl (by unfold nW;omega) (by unfold nW;omega) y
 have a8:=Hd (fun y (hy:Below w w y)=>(h.later hy).src);have a1:=h.head.lt;have o:(CP s.n S).toList.length=nW s.n:=by unfold CP;simp
 have ab:=h.fit;have hm:nW s.n=nW s.n:=rfl;generalize aa:(CP s.n S).toList=i at *;generalize ae:nW s.n=m at *;have P:Hid (Ah (w.alloc (nO (Array.replicate m (nE .u64 0)) 291)) w.heap.size 291 (List.replicate m (nE .u64 0)).toArray):=Hd (by simpa using Ah.new w 291 (Array.replicate m (nE .u64 0)));have d1:(w.alloc (nO (Array.replicate m (nE .u64 0)) 291)).cell? (s.h,1)=nJ (nC (s.wb,0) m m):=((AE w _).cell (p:=(s.h,1)) a1).trans c1;have J:=Hd (AE w (nO (Array.replicate m (nE .u64 0)) 291));have R:=Hd (a8 _ J)
 have a6:=Hd a2;unfold AH.v;clear a2 h hm;have ai:=a6 w;generalize p:w.alloc (nO (Array.replicate m (nE .u64 0)) 291)=W at *;have a9:W.heap.size=w.heap.size+1:=by rw[<-p];simp
 have ah:=Hd p;clear p;have a3:∀a4 v,i[a4]?=nJ v->nQ W (((s.wb,0):Addr).add a4)=nJ v:=by
  rcases R.2 with⟨h0,-⟩|⟨ad,c,h0,-,h2⟩
  ·cases h0
  ·cases h0;exact h2
 have T:=run_copy_row (P:=Tryz.prog) W 294 294 3 291 w.heap.size 0 m m (s.wb,0) m m _ 291 i Tryz.underlying294 mU P (by rw[o];exact(Nat.min_self m).symm) a3 (by simp[o]) R.1;have C:=setRow_heap W w.heap.size _ (List.take 0 (List.replicate m (Value.int .u64 0)).toArray.toList++i++List.drop (0+i.length) (List.replicate m (Value.int .u64 0)).toArray.toList).toArray 291 (0,0) P;have l:=below_setRow J (AF _) (List.take 0 (List.replicate m (Value.int .u64 0)).toArray.toList++i++List.drop (0+i.length) (List.replicate m (Value.int .u64 0)).toArray.toList).toArray
 have I:(W.setRow w.heap.size (List.take 0 (List.replicate m (Value.int .u64 0)).toArray.toList++i++List.drop (0+i.length) (List.replicate m (Value.int .u64 0)).toArray.toList).toArray).heap.size=W.heap.size:=by simp[World.setRow]
 rw[o]at T;have U:(List.take 0 (List.replicate m (Value.int .u64 0)).toArray.toList++i++List.drop (0+i.length) (List.replicate m (Value.int .u64 0)).toArray.toList).toArray=i.toArray:=by simp[o]
 rw[U]at C l I;rw[show (List.take 0 (List.replicate m (Value.int .u64 0)).toArray.toList++i++List.drop (0+m) (List.replicate m (Value.int .u64 0)).toArray.toList).toArray=i.toArray by simp]at T;generalize W.setRow w.heap.size i.toArray=W2 at *;have e0:=(l.cell (p:=(s.h,0)) a1).trans c0;have a7:=Hd C;have a5:=Hd l;rw[a9]at I;clear C l U a3;generalize a0:w.heap.size=j at *;have ag:=Hd a0;clear a0;go_enter Tryz.func196,Tryz.ntmps196
 go_wp2_with fail
 go_ret;refine⟨⟨j+1,j,s.n⟩,?_,rfl,by show j<=j+1;omega,AF _,⟨?_,?_,af,ab⟩,?_⟩
 ·rfl
 ·show Ah _ (j+1) _ #[s.n,nC (j,0) (nW s.n) (nW s.n)]
  rw[ae];exact Ah.newAt I
 ·show Ah _ j _ (CP s.n S)
  rw[show CP s.n S=i.toArray by rw[<-aa]];exact Ah.alloc (t:=291) a7 _
 ·exact a5.alloc mR _
