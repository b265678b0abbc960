/- . -/
import Derived.Test.YtendpobbjjaopaaGreatDoorXag
import Derived.Shelf.SlSortCmp.NoneTotal
import Derived.Shelf.Small.Bits
set_option linter.all false
set_option maxRecDepth 100000
set_option maxHeartbeats 16000000
namespace Go.Proofs.YtendpobbjjaopaaGreatDoor
open Go.RowKit Go.Proofs.Tryz
open Value renaming slice→oG
open Option renaming some→oM,none→oN
open Ending renaming returned→oQ
open Go renaming World→oU
variable{w:oU}{l:List It}
section
open Go.RowKit Go.Proofs.Tryz Go.Shelf Go.Sort
def Y1:Go.Shelf.Ren:=⟨fun|6=>211|14=>228|15=>229|20=>238|21=>239|22=>240|23=>241|24=>242|25=>243|26=>244|27=>245|28=>246|29=>247|46=>249|47=>250|48=>251|49=>252|50=>253|57=>254|n=>n,fun|0=>0|3=>3|4=>4|5=>5|9=>9|22=>116|25=>294|39=>291|45=>316|46=>317|50=>209|53=>323|55=>264|66=>327|70=>331|76=>333|77=>334|24=>220|n=>n,fun n=>n⟩
def TF:SlLaysF0.n6 Tryz.prog Y1:={
 mixed:=by kernel_rfl
 f6:=⟨Tryz.f211.name,nY,func211.trans (congrArg oM nZ)⟩
 f14:=⟨Tryz.f228.name,nY,func228.trans (congrArg oM nZ)⟩
 f15:=func229.trans (congrArg oM nZ)
 f20:=⟨Tryz.f238.name,nY,func238.trans (congrArg oM nZ)⟩
 f21:=⟨Tryz.f239.name,nY,func239.trans (congrArg oM nZ)⟩
 f22:=⟨Tryz.f240.name,nY,func240.trans (congrArg oM nZ)⟩
 f23:=⟨Tryz.f241.name,nY,func241.trans (congrArg oM nZ)⟩
 f24:=⟨Tryz.f242.name,nY,func242.trans (congrArg oM nZ)⟩
 f25:=⟨Tryz.f243.name,nY,func243.trans (congrArg oM nZ)⟩
 f26:=⟨Tryz.f244.name,nY,func244.trans (congrArg oM nZ)⟩
 f27:=⟨Tryz.f245.name,nY,func245.trans (congrArg oM nZ)⟩
 f28:=func246.trans (congrArg oM nZ)
 f29:=func247.trans (congrArg oM nZ)
 f46:=⟨Tryz.f249.name,nY,func249.trans (congrArg oM nZ)⟩
 f47:=func250.trans (congrArg oM nZ)
 f48:=func251.trans (congrArg oM nZ)
 f49:=⟨Tryz.f252.name,nY,func252.trans (congrArg oM nZ)⟩
 f50:=⟨Tryz.f253.name,nY,func253.trans (congrArg oM nZ)⟩
 f57:=⟨Tryz.f254.name,nY,func254.trans (congrArg oM nZ)⟩
 t0:=underlying0
 a0:=Tryz.isAgg0
 z0:=Tryz.sizeOf0
 v0:=Tryz.zeroValue0
 t3:=underlying3
 a3:=Tryz.isAgg3
 z3:=Tryz.sizeOf3
 v3:=Tryz.zeroValue3
 t4:=underlying4
 a4:=Tryz.isAgg4
 z4:=Tryz.sizeOf4
 v4:=Tryz.zeroValue4
 t5:=underlying5
 a5:=Tryz.isAgg5
 z5:=Tryz.sizeOf5
 v5:=Tryz.zeroValue5
 t9:=underlying9
 a9:=Tryz.isAgg9
 z9:=Tryz.sizeOf9
 v9:=Tryz.zeroValue9
 t22:=underlying116
 a22:=Tryz.isAgg116
 z22:=Tryz.sizeOf116
 v22:=Tryz.zeroValue116
 t25:=underlying294
 a25:=Tryz.isAgg294
 z25:=Tryz.sizeOf294
 v25:=Tryz.zeroValue294
 t39:=underlying291
 a39:=Tryz.isAgg291
 z39:=Tryz.sizeOf291
 v39:=Tryz.zeroValue291
 t45:=underlying316
 a45:=Tryz.isAgg316
 z45:=Tryz.sizeOf316
 v45:=Tryz.zeroValue316
 t46:=underlying317
 a46:=Tryz.isAgg317
 z46:=Tryz.sizeOf317
 v46:=Tryz.zeroValue317
 t50:=underlying209
 a50:=Tryz.isAgg209
 z50:=Tryz.sizeOf209
 v50:=Tryz.zeroValue209
 t53:=underlying323
 a53:=Tryz.isAgg323
 z53:=Tryz.sizeOf323
 v53:=Tryz.zeroValue323
 t55:=underlying264
 a55:=Tryz.isAgg264
 z55:=Tryz.sizeOf264
 v55:=Tryz.zeroValue264
 t66:=underlying327
 a66:=Tryz.isAgg327
 z66:=Tryz.sizeOf327
 v66:=Tryz.zeroValue327
 t70:=underlying331
 a70:=Tryz.isAgg331
 z70:=Tryz.sizeOf331
 v70:=Tryz.zeroValue331
 t76:=underlying333
 a76:=Tryz.isAgg333
 z76:=Tryz.sizeOf333
 v76:=Tryz.zeroValue333
 t77:=underlying334
 a77:=Tryz.isAgg334
 z77:=Tryz.sizeOf334
 v77:=Tryz.zeroValue334}
def FN(x y:It):Bool:=Nat.blt x.1 y.1||(Nat.beq x.1 y.1&&Nat.blt x.2 y.2)
def Kq(x:It):List It->List It
 | []=>[x]
 | y::l=>bif FN y x then y::Kq x l else x::y::l
def I5(l:List It):List It:=l.foldr Kq []
def DF(l:List It):List It:=BP (I5 l)
def Mb(x y:It):FN x y=true<->x.1<y.1\/(x.1=y.1/\x.2<y.2):=by simp[FN,Nat.blt_eq,Nat.beq_eq]
def JF(x y:It):FN x y=false<->¬(x.1<y.1\/(x.1=y.1/\x.2<y.2)):=by rw[<-Mb];cases FN x y<;>simp
theorem U6(x:It)(l:List It):(Kq x l).Perm (x::l):=by
 induction l with
 | nil=>exact List.Perm.refl _
 | cons y l i=>
  unfold Kq;cases FN y x
  ·exact List.Perm.refl _
  ·exact(i.cons y).trans (List.Perm.swap x y l)
theorem NV(l:List It):(I5 l).Perm l:=by
 induction l with
 | nil=>exact List.Perm.refl _
 | cons x l i=>exact(U6 x _).trans (i.cons x)
theorem X5(x:It)(l:List It)(h:l.Pairwise fun a b=>FN b a=false):(Kq x l).Pairwise fun a b=>FN b a=false:=by
 induction l with
 | nil=>exact List.pairwise_singleton _ _
 | cons y l p=>
  have j:=List.pairwise_cons.1 h;unfold Kq;cases o:FN y x
  ·refine List.pairwise_cons.2 ⟨fun z i=>?_,h⟩
   rcases List.mem_cons.1 i with rfl|i
   ·exact o
   ·have:=j.1 z i
    rw[JF]at *;omega
  ·refine List.pairwise_cons.2 ⟨fun z i=>?_,p j.2⟩
   rcases List.mem_cons.1 ((U6 x l).mem_iff.1 i) with rfl|i
   ·rw[Mb]at o
    rw[JF];omega
   ·exact j.1 z i
theorem lH(l:List It):(I5 l).Pairwise fun a b=>FN b a=false:=by
 induction l with
 | nil=>exact List.Pairwise.nil
 | cons x l i=>exact X5 x _ i
def R7(l:List It):(I5 l).length=l.length:=(NV l).length_eq
abbrev IL:={x:It // x.1<=100000/\x.2<=100000}
instance:Inhabited IL:=⟨⟨(0,0),nY⟩⟩
def Ei(x:IL):List Value:=Bg x.1
def Ig(x y:IL):Int:=if x.1.1=y.1.1 then(x.1.2:Int)-y.1.2 else(x.1.1:Int)-y.1.1
def LV(x y:IL):ltOf Ig x y=FN x.1 y.1:=by unfold ltOf Ig;rw[Bool.eq_iff_iff,Mb,decide_eq_true_iff];split<;>omega
def ma:SWO (ltOf Ig) where
 irrefl x:=by rw[LV,JF];omega
 trans x y z i j:=by rw[LV,Mb]at *;omega
 ntrans x y z i j:=by rw[LV,JF]at *;omega
def bM(x y:IL)(i:ltOf Ig x y=false)(j:ltOf Ig y x=false):x=y:=by rw[LV,JF]at *;exact Subtype.ext (Prod.ext nX nX)
def jD{d:List IL}:(d.mergeSort fun x y=>!(ltOf Ig) y x).map (·.1)=I5 (d.map (·.1)):=by
 have e:(d.mergeSort fun x y=>!(ltOf Ig) y x).map (·.1)=(d.map (·.1)).mergeSort fun x y=>!FN y x:=List.map_mergeSort fun a _ b _=>by rw[LV]
 rw[e];refine List.Perm.eq_of_pairwise (le:=fun x y=>(!FN y x)=true) ?_ ?_ ?_ ((List.mergeSort_perm _ _).trans (NV _).symm)
 ·intro a b _ _ i j
  simp only[Bool.not_eq_true',JF]at i j;exact Prod.ext nX nX
 ·refine List.pairwise_mergeSort ?_ ?_ _
  ·intro a b c i j
   simp only[Bool.not_eq_true',JF]at i j ⊢;omega
  ·intro a b
   cases h:FN b a with
   | false=>simp
   | true=>
    rw[Mb]at h;have:FN a b=false:=by rw[JF];omega
    simp[this]
 ·simpa using lH (d.map (·.1))
def YS(r:List It)(j:Nat)(i:j<r.length*2):(r.flatMap Bg)[j]?=(Bg (r[j/2]'(by omega)))[j%2]?:=by have:=CP Bg 2 (fun _=>rfl) r (j/2) (j%2) nX nX;rw[show j/2*2+j%2=j by omega]at this;exact this
def RC(d:Array IL):(flatK Ei 2 d).toList=(d.toList.map (·.1)).flatMap Bg:=by
 apply List.ext_getElem?;intro j;by_cases i:j<d.size*2
 ·rw[YS _ _ (by simpa using i)]
  have l:=get_flatK Ei 2 d j i;have p:j/2<d.size:=by omega
  rw[getElem!_pos _ _ (by simpa using i),getElem!_pos d _ p]at l;rw[Array.getElem?_toList,Array.getElem?_eq_getElem (by simpa using i),l];have o:j%2<(Ei d[j/2]).length:=by show _<2;omega
  rw[getElem!_pos (Ei d[j/2]) (j%2) o,List.getElem_map,Array.getElem_toList];exact(eG o).symm
 ·rw[nG oC,nG (by rw[NN];simp;omega)]
def Xj{B g c:Nat}{d:Array IL}(h:DG w B g d.size c (d.toList.map (·.1))):HoldsK Ei 2 w g 0 d:=by
 intro j i;have o:j<d.size*2:=by simpa using i
 have l:=Bh h j o;rw[<-RC d,Array.getElem?_toList,Array.getElem?_eq_getElem i]at l;rw[Nat.zero_add,getElem!_pos (flatK Ei 2 d) j i];exact⟨l,GD h j⟩
def mq(i:Array Value)(F:Array Value)(h:F.size<=i.size):(putCells id 0 F i).size=i.size/\(putCells id 0 F i).toList.take F.size=F.toList:=by
 refine⟨by simp[putCells],?_⟩;apply List.ext_getElem?;intro j;by_cases l:j<F.size
 ·rw[List.getElem?_take_of_lt l,Array.getElem?_toList,Array.getElem?_eq_getElem (by simp[putCells];omega),Array.getElem?_toList,Array.getElem?_eq_getElem l]
  simp[putCells,l]
 ·rw[nG oC,nG oC]
def mD{B g n c m:Nat}{d:Array IL}{os:Array Obj}(h:DG w B g n c l)(i:d.size=n):DG (sortWorldK Ei 2 w g 0 m d os) B g n c (d.toList.map (·.1))/\Am (·=g) w (sortWorldK Ei 2 w g 0 m d os):=by
 rcases h.2 with⟨j,_⟩|⟨g',cap,t,j,R,J,C,P,I,h4⟩
 ·cases j
 cases j
 have a0:=(aG.1 J).1;have hF:=mq t (flatK Ei 2 d) (by rw[size_flatK,i,I];exact Nat.mul_le_mul_right 2 C);have p:(sortWorldK Ei 2 w g 0 m d os).heap=w.heap.modify g (onCells (putCells id 0 (flatK Ei 2 d)))++os:=rfl;have o:(w.heap.modify g (onCells (putCells id 0 (flatK Ei 2 d)))).size=w.heap.size:=Array.size_modify;have T:(sortWorldK Ei 2 w g 0 m d os).heap[g]?=oM (.cells (putCells id 0 (flatK Ei 2 d) t) 220 (0,0)):=by rw[p,Array.getElem?_append_left (by rw[o];exact a0),Array.getElem?_modify,if_pos rfl,J];rfl
 refine⟨⟨by rw[NN];simp[i],.inr ⟨g,c,_,rfl,R,T,C,P,by rw[hF.1,I],?_⟩⟩,⟨rfl,rfl,rfl,by rw[p,Array.size_append,o];omega,fun k U hx=>?_⟩⟩
 ·rw[<-RC,<-hF.2,size_flatK,i]
 ·rw[p,Array.getElem?_append_left (by rw[o];exact U),Array.getElem?_modify,if_neg (by rintro rfl;exact hx rfl)]
def eS{B g n c:Nat}(h:DG w B g n c l)(hn:n<=100000)(C:∀x∈l,x.1<=100000/\x.2<=100000):() 211 #[oG (g,0) n c,.func (.func 212) #[] #[]] w fun e w'=>e=oQ (.tuple #[])/\DG w' B g n c (I5 l)/\Am (·=g) w w':=by
 have a2:=J4 h;have i:(l.attachWith (fun x=>x.1<=100000/\x.2<=100000) C).map (·.1)=l:=List.attachWith_map_subtype_val C;generalize hd:(l.attachWith (fun x=>x.1<=100000/\x.2<=100000) C)=dl at i;clear hd;have p:dl.length=n:=by rw[<-a2,<-i,lM]
 have T:∀args w,(callFunc 212 args).run Tryz.prog w=.ok (.enter 212 args) w:=enters_of func212 nZ rfl;have hg:g<w.heap.size:=by
  rcases h.2 with⟨t,_⟩|⟨g',cap,a3,t,hb,a1,_⟩
  ·cases t
  ·cases t;exact(aG.1 a1).1
 have a0:CmpLays Tryz.prog 212 #[] Ei 2 Ig g 0 dl.toArray.size w:=fun m J R I x y=>by refine(mR (sortWorldK Ei 2 w g 0 m R J) x.1 y.1 x.2 y.2).mono ?_;rintro e w' ⟨rfl,rfl⟩;exact⟨rfl,0,#[.cells #[x.1.1,x.1.2] 220]++#[.cells #[y.1.1,y.1.2] 220],by rw[alloc_eq_grow,alloc_eq_grow,grow_grow];rfl⟩
 have U:HoldsK Ei 2 w g 0 dl.toArray:=Xj (B:=B) (c:=c) (by simp only[List.size_toArray];rw[p,i];exact h);have o:=AnyQ.slices_SortFunc_total TF 2 Tryz.isAgg220 Tryz.sizeOf220 Ei (fun _=>rfl) (fun x v P=>by simp[Ei,Bg]at P;rcases P with rfl|rfl<;>rfl) Ig ma 212 #[] g 0 c dl.toArray w T a0 U hg oC bM;change Calls Tryz.prog 211 #[oG (oM ⟨g,0,oN⟩) dl.length c,_] w _ at o;rw[p]at o;refine o.mono ?_;rintro e w' ⟨rfl,m,J,rfl⟩;have I:=mD (m:=m) (os:=J) (d:=(dl.mergeSort fun x y=>!(ltOf Ig) y x).toArray) h (by simp[p])
 refine⟨rfl,?_,I.2⟩;have j:=I.1;simp only at j;rw[jD,i]at j;exact j
def aL{B g n c:Nat}(h:DG w B g n c l)(p:n<=100000)(a0:n<=c)(U:∀x∈l,x.1<=100000/\x.2<=100000):() 179 #[oG (g,0) n c] w fun e w'=>e=oQ (oG (g,0) (DF l).length c)/\DG w' B g (DF l).length c (DF l)/\Am (·=g) w w':=by
 have i:=Hd (eS h p U);have P:=Hd (fun(y:oU) (r:List It) (hy:DG y B g n c r)=>W4 hy p a0);clear h;unfold DF;generalize I5 l=r at i ⊢;go_enter func179,ntmps179
 go_wp2_with (first|(go_at_call 211;refine i.mono ?_;rintro e w1 ⟨rfl,j,t⟩;have I:=Hd j;have R:=Hd t;clear j t)|(go_at_call 213;refine(P _ _ I).mono ?_;rintro e w2 ⟨rfl,o,C⟩;have J:=Hd o;have T:=Hd C;clear o C))
 go_ret;exact⟨rfl,J,R.next T⟩
def YQ(w:oU):() 213 #[oG oN 0 0] w fun e w'=>e=oQ (oG oN 0 0)/\w'=w:=by
 go_enter func213,ntmps213
 go_wp2;go_ret;exact⟨rfl,rfl⟩
def Zo(w:oU):() 179 #[oG oN 0 0] w fun e w'=>e=oQ (oG oN 0 0)/\w'=w:=by
 have j:=Hd (fun y:oU=>AnyF.slices_SortFunc_none TF oN 0 (.func (.func 212) #[] #[]) y);have i:=Hd YQ;go_enter func179,ntmps179
 go_wp2_with (first|(go_at_call 211;refine(j _).mono ?_;rintro e l ⟨rfl,rfl⟩)|(go_at_call 213;refine(i _).mono ?_;rintro e o ⟨rfl,rfl⟩))
 go_ret;exact⟨rfl,rfl⟩
end
