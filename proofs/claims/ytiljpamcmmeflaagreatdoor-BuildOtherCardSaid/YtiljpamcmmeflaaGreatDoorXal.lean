/- . -/
import Derived.Test.YtiljpamcmmeflaaGreatDoorXag
import Derived.Shelf.SlSortCmp.NoneTotal
import Derived.Shelf.Small.Bits
set_option linter.all false
set_option maxRecDepth 100000
set_option maxHeartbeats 16000000
namespace Go.Proofs.YtiljpamcmmeflaaGreatDoor
open Go.RowKit Go.Proofs.Tryz
open Value renaming slice→nC
open Option renaming some→nJ,none→nK
open Ending renaming returned→nP
open Go renaming World→nS
variable{w:nS}{l:List It}
section
open Go.RowKit Go.Proofs.Tryz Go.Shelf Go.Sort
def Z0:Go.Shelf.Ren:=⟨fun|6=>212|14=>233|15=>234|20=>245|21=>246|22=>247|23=>248|24=>249|25=>250|26=>251|27=>252|28=>253|29=>254|46=>256|47=>257|48=>258|49=>259|50=>260|57=>261|n=>n,fun|0=>0|3=>3|4=>4|5=>5|9=>9|22=>148|25=>323|39=>320|45=>347|46=>348|50=>245|53=>354|55=>291|66=>358|70=>362|76=>364|77=>365|24=>256|n=>n,fun n=>n⟩
def Rn:SlLaysF0.n6 Tryz.prog Z0:={
 mixed:=by kernel_rfl
 f6:=⟨Tryz.f212.name,mT,func212.trans (congrArg nJ mU)⟩
 f14:=⟨Tryz.f233.name,mT,func233.trans (congrArg nJ mU)⟩
 f15:=func234.trans (congrArg nJ mU)
 f20:=⟨Tryz.f245.name,mT,func245.trans (congrArg nJ mU)⟩
 f21:=⟨Tryz.f246.name,mT,func246.trans (congrArg nJ mU)⟩
 f22:=⟨Tryz.f247.name,mT,func247.trans (congrArg nJ mU)⟩
 f23:=⟨Tryz.f248.name,mT,func248.trans (congrArg nJ mU)⟩
 f24:=⟨Tryz.f249.name,mT,func249.trans (congrArg nJ mU)⟩
 f25:=⟨Tryz.f250.name,mT,func250.trans (congrArg nJ mU)⟩
 f26:=⟨Tryz.f251.name,mT,func251.trans (congrArg nJ mU)⟩
 f27:=⟨Tryz.f252.name,mT,func252.trans (congrArg nJ mU)⟩
 f28:=func253.trans (congrArg nJ mU)
 f29:=func254.trans (congrArg nJ mU)
 f46:=⟨Tryz.f256.name,mT,func256.trans (congrArg nJ mU)⟩
 f47:=func257.trans (congrArg nJ mU)
 f48:=func258.trans (congrArg nJ mU)
 f49:=⟨Tryz.f259.name,mT,func259.trans (congrArg nJ mU)⟩
 f50:=⟨Tryz.f260.name,mT,func260.trans (congrArg nJ mU)⟩
 f57:=⟨Tryz.f261.name,mT,func261.trans (congrArg nJ mU)⟩
 t0:=underlying0
 a0:=Tryz.isAgg0
 z0:=Tryz.sizeOf0
 v0:=Tryz.zeroValue0
 t3:=underlying3
 a3:=Tryz.isAgg3
 z3:=Tryz.sizeOf3
 v3:=Tryz.zeroValue3
 t4:=underlying4
 a4:=Tryz.isAgg4
 z4:=Tryz.sizeOf4
 v4:=Tryz.zeroValue4
 t5:=underlying5
 a5:=Tryz.isAgg5
 z5:=Tryz.sizeOf5
 v5:=Tryz.zeroValue5
 t9:=underlying9
 a9:=Tryz.isAgg9
 z9:=Tryz.sizeOf9
 v9:=Tryz.zeroValue9
 t22:=underlying148
 a22:=Tryz.isAgg148
 z22:=Tryz.sizeOf148
 v22:=Tryz.zeroValue148
 t25:=underlying323
 a25:=Tryz.isAgg323
 z25:=Tryz.sizeOf323
 v25:=Tryz.zeroValue323
 t39:=underlying320
 a39:=Tryz.isAgg320
 z39:=Tryz.sizeOf320
 v39:=Tryz.zeroValue320
 t45:=underlying347
 a45:=Tryz.isAgg347
 z45:=Tryz.sizeOf347
 v45:=Tryz.zeroValue347
 t46:=underlying348
 a46:=Tryz.isAgg348
 z46:=Tryz.sizeOf348
 v46:=Tryz.zeroValue348
 t50:=underlying245
 a50:=Tryz.isAgg245
 z50:=Tryz.sizeOf245
 v50:=Tryz.zeroValue245
 t53:=underlying354
 a53:=Tryz.isAgg354
 z53:=Tryz.sizeOf354
 v53:=Tryz.zeroValue354
 t55:=underlying291
 a55:=Tryz.isAgg291
 z55:=Tryz.sizeOf291
 v55:=Tryz.zeroValue291
 t66:=underlying358
 a66:=Tryz.isAgg358
 z66:=Tryz.sizeOf358
 v66:=Tryz.zeroValue358
 t70:=underlying362
 a70:=Tryz.isAgg362
 z70:=Tryz.sizeOf362
 v70:=Tryz.zeroValue362
 t76:=underlying364
 a76:=Tryz.isAgg364
 z76:=Tryz.sizeOf364
 v76:=Tryz.zeroValue364
 t77:=underlying365
 a77:=Tryz.isAgg365
 z77:=Tryz.sizeOf365
 v77:=Tryz.zeroValue365}
def Fm(x y:It):Bool:=Nat.blt x.1 y.1||(Nat.beq x.1 y.1&&Nat.blt x.2 y.2)
def K9(x:It):List It->List It
 | []=>[x]
 | y::l=>bif Fm y x then y::K9 x l else x::y::l
def IA(l:List It):List It:=l.foldr K9 []
def DA(l:List It):List It:=BN (IA l)
def Lx(x y:It):Fm x y=true<->x.1<y.1\/(x.1=y.1/\x.2<y.2):=by simp[Fm,Nat.blt_eq,Nat.beq_eq]
def Js(x y:It):Fm x y=false<->¬(x.1<y.1\/(x.1=y.1/\x.2<y.2)):=by rw[<-Lx];cases Fm x y<;>simp
theorem T6(x:It)(l:List It):(K9 x l).Perm (x::l):=by
 induction l with
 | nil=>exact List.Perm.refl _
 | cons y l i=>
  unfold K9;cases Fm y x
  ·exact List.Perm.refl _
  ·exact(i.cons y).trans (List.Perm.swap x y l)
theorem NN(l:List It):(IA l).Perm l:=by
 induction l with
 | nil=>exact List.Perm.refl _
 | cons x l i=>exact(T6 x _).trans (i.cons x)
theorem Yh(x:It)(l:List It)(h:l.Pairwise fun a b=>Fm b a=false):(K9 x l).Pairwise fun a b=>Fm b a=false:=by
 induction l with
 | nil=>exact List.pairwise_singleton _ _
 | cons y l p=>
  have j:=List.pairwise_cons.1 h;unfold K9;cases o:Fm y x
  ·refine List.pairwise_cons.2 ⟨fun z i=>?_,h⟩
   rcases List.mem_cons.1 i with rfl|i
   ·exact o
   ·have:=j.1 z i
    rw[Js]at *;omega
  ·refine List.pairwise_cons.2 ⟨fun z i=>?_,p j.2⟩
   rcases List.mem_cons.1 ((T6 x l).mem_iff.1 i) with rfl|i
   ·rw[Lx]at o
    rw[Js];omega
   ·exact j.1 z i
theorem Yo(l:List It):(IA l).Pairwise fun a b=>Fm b a=false:=by
 induction l with
 | nil=>exact List.Pairwise.nil
 | cons x l i=>exact Yh x _ i
def QI(l:List It):(IA l).length=l.length:=(NN l).length_eq
abbrev IT:={x:It // x.1<=100000/\x.2<=100000}
instance:Inhabited IT:=⟨⟨(0,0),mT⟩⟩
def Eh(x:IT):List Value:=Bf x.1
def Ih(x y:IT):Int:=if x.1.1=y.1.1 then(x.1.2:Int)-y.1.2 else(x.1.1:Int)-y.1.1
def LJ(x y:IT):ltOf Ih x y=Fm x.1 y.1:=by unfold ltOf Ih;rw[Bool.eq_iff_iff,Lx,decide_eq_true_iff];split<;>omega
def lU:SWO (ltOf Ih) where
 irrefl x:=by rw[LJ,Js];omega
 trans x y z i j:=by rw[LJ,Lx]at *;omega
 ntrans x y z i j:=by rw[LJ,Js]at *;omega
def lz(x y:IT)(i:ltOf Ih x y=false)(j:ltOf Ih y x=false):x=y:=by rw[LJ,Js]at *;exact Subtype.ext (Prod.ext mR mR)
def YX{d:List IT}:(d.mergeSort fun x y=>!(ltOf Ih) y x).map (·.1)=IA (d.map (·.1)):=by
 have e:(d.mergeSort fun x y=>!(ltOf Ih) y x).map (·.1)=(d.map (·.1)).mergeSort fun x y=>!Fm y x:=List.map_mergeSort fun a _ b _=>by rw[LJ]
 rw[e];refine List.Perm.eq_of_pairwise (le:=fun x y=>(!Fm y x)=true) ?_ ?_ ?_ ((List.mergeSort_perm _ _).trans (NN _).symm)
 ·intro a b _ _ i j
  simp only[Bool.not_eq_true',Js]at i j;exact Prod.ext mR mR
 ·refine List.pairwise_mergeSort ?_ ?_ _
  ·intro a b c i j
   simp only[Bool.not_eq_true',Js]at i j ⊢;omega
  ·intro a b
   cases h:Fm b a with
   | false=>simp
   | true=>
    rw[Lx]at h;have:Fm a b=false:=by rw[Js];omega
    simp[this]
 ·simpa using Yo (d.map (·.1))
def WW(r:List It)(j:Nat)(i:j<r.length*2):(r.flatMap Bf)[j]?=(Bf (r[j/2]'(by omega)))[j%2]?:=by have:=CR Bf 2 (fun _=>rfl) r (j/2) (j%2) mR mR;rw[show j/2*2+j%2=j by omega]at this;exact this
def SZ(d:Array IT):(flatK Eh 2 d).toList=(d.toList.map (·.1)).flatMap Bf:=by
 apply List.ext_getElem?;intro j;by_cases i:j<d.size*2
 ·rw[WW _ _ (by simpa using i)]
  have l:=get_flatK Eh 2 d j i;have p:j/2<d.size:=by omega
  rw[getElem!_pos _ _ (by simpa using i),getElem!_pos d _ p]at l;rw[Array.getElem?_toList,Array.getElem?_eq_getElem (by simpa using i),l];have o:j%2<(Eh d[j/2]).length:=by show _<2;omega
  rw[getElem!_pos (Eh d[j/2]) (j%2) o,List.getElem_map,Array.getElem_toList];exact(eG o).symm
 ·rw[nG mX,nG (by rw[Me];simp;omega)]
def VL{B g c:Nat}{d:Array IT}(h:DI w B g d.size c (d.toList.map (·.1))):HoldsK Eh 2 w g 0 d:=by
 intro j i;have o:j<d.size*2:=by simpa using i
 have l:=Bb h j o;rw[<-SZ d,Array.getElem?_toList,Array.getElem?_eq_getElem i]at l;rw[Nat.zero_add,getElem!_pos (flatK Eh 2 d) j i];exact⟨l,GU h j⟩
def kU(i:Array Value)(F:Array Value)(h:F.size<=i.size):(putCells id 0 F i).size=i.size/\(putCells id 0 F i).toList.take F.size=F.toList:=by
 refine⟨by simp[putCells],?_⟩;apply List.ext_getElem?;intro j;by_cases l:j<F.size
 ·rw[List.getElem?_take_of_lt l,Array.getElem?_toList,Array.getElem?_eq_getElem (by simp[putCells];omega),Array.getElem?_toList,Array.getElem?_eq_getElem l]
  simp[putCells,l]
 ·rw[nG mX,nG mX]
def Yp{B g n c m:Nat}{d:Array IT}{os:Array Obj}(h:DI w B g n c l)(i:d.size=n):DI (sortWorldK Eh 2 w g 0 m d os) B g n c (d.toList.map (·.1))/\Aj (·=g) w (sortWorldK Eh 2 w g 0 m d os):=by
 rcases h.2 with⟨j,_⟩|⟨g',cap,t,j,R,J,C,P,I,h4⟩
 ·cases j
 cases j
 have a0:=(aG.1 J).1;have hF:=kU t (flatK Eh 2 d) (by rw[size_flatK,i,I];exact Nat.mul_le_mul_right 2 C);have p:(sortWorldK Eh 2 w g 0 m d os).heap=w.heap.modify g (onCells (putCells id 0 (flatK Eh 2 d)))++os:=rfl;have o:(w.heap.modify g (onCells (putCells id 0 (flatK Eh 2 d)))).size=w.heap.size:=Array.size_modify;have T:(sortWorldK Eh 2 w g 0 m d os).heap[g]?=nJ (.cells (putCells id 0 (flatK Eh 2 d) t) 256 (0,0)):=by rw[p,Array.getElem?_append_left (by rw[o];exact a0),Array.getElem?_modify,if_pos rfl,J];rfl
 refine⟨⟨by rw[Me];simp[i],.inr ⟨g,c,_,rfl,R,T,C,P,by rw[hF.1,I],?_⟩⟩,⟨rfl,rfl,rfl,by rw[p,Array.size_append,o];omega,fun k U hx=>?_⟩⟩
 ·rw[<-SZ,<-hF.2,size_flatK,i]
 ·rw[p,Array.getElem?_append_left (by rw[o];exact U),Array.getElem?_modify,if_neg (by rintro rfl;exact hx rfl)]
def gU{B g n c:Nat}(h:DI w B g n c l)(hn:n<=100000)(C:∀x∈l,x.1<=100000/\x.2<=100000):() 212 #[nC (g,0) n c,.func (.func 213) #[] #[]] w fun e w'=>e=nP (.tuple #[])/\DI w' B g n c (IA l)/\Aj (·=g) w w':=by
 have a2:=JZ h;have i:(l.attachWith (fun x=>x.1<=100000/\x.2<=100000) C).map (·.1)=l:=List.attachWith_map_subtype_val C;generalize hd:(l.attachWith (fun x=>x.1<=100000/\x.2<=100000) C)=dl at i;clear hd;have p:dl.length=n:=by rw[<-a2,<-i,lM]
 have T:∀args w,(callFunc 213 args).run Tryz.prog w=.ok (.enter 213 args) w:=enters_of func213 mU rfl;have hg:g<w.heap.size:=by
  rcases h.2 with⟨t,_⟩|⟨g',cap,a3,t,hb,a1,_⟩
  ·cases t
  ·cases t;exact(aG.1 a1).1
 have a0:CmpLays Tryz.prog 213 #[] Eh 2 Ih g 0 dl.toArray.size w:=fun m J R I x y=>by refine(iP (sortWorldK Eh 2 w g 0 m R J) x.1 y.1 x.2 y.2).mono ?_;rintro e w' ⟨rfl,rfl⟩;exact⟨rfl,0,#[.cells #[x.1.1,x.1.2] 256]++#[.cells #[y.1.1,y.1.2] 256],by rw[alloc_eq_grow,alloc_eq_grow,grow_grow];rfl⟩
 have U:HoldsK Eh 2 w g 0 dl.toArray:=VL (B:=B) (c:=c) (by simp only[List.size_toArray];rw[p,i];exact h);have o:=AnyQ.slices_SortFunc_total Rn 2 Tryz.isAgg256 Tryz.sizeOf256 Eh (fun _=>rfl) (fun x v P=>by simp[Eh,Bf]at P;rcases P with rfl|rfl<;>rfl) Ih lU 213 #[] g 0 c dl.toArray w T a0 U hg mX lz;change Calls Tryz.prog 212 #[nC (nJ ⟨g,0,nK⟩) dl.length c,_] w _ at o;rw[p]at o;refine o.mono ?_;rintro e w' ⟨rfl,m,J,rfl⟩;have I:=Yp (m:=m) (os:=J) (d:=(dl.mergeSort fun x y=>!(ltOf Ih) y x).toArray) h (by simp[p])
 refine⟨rfl,?_,I.2⟩;have j:=I.1;simp only at j;rw[YX,i]at j;exact j
def dD{B g n c:Nat}(h:DI w B g n c l)(p:n<=100000)(a0:n<=c)(U:∀x∈l,x.1<=100000/\x.2<=100000):() 187 #[nC (g,0) n c] w fun e w'=>e=nP (nC (g,0) (DA l).length c)/\DI w' B g (DA l).length c (DA l)/\Aj (·=g) w w':=by
 have i:=Hd (gU h p U);have P:=Hd (fun(y:nS) (r:List It) (hy:DI y B g n c r)=>Wg hy p a0);clear h;unfold DA;generalize IA l=r at i ⊢;go_enter func187,ntmps187
 go_wp2_with (first|(go_at_call 212;refine i.mono ?_;rintro e w1 ⟨rfl,j,t⟩;have I:=Hd j;have R:=Hd t;clear j t)|(go_at_call 214;refine(P _ _ I).mono ?_;rintro e w2 ⟨rfl,o,C⟩;have J:=Hd o;have T:=Hd C;clear o C))
 go_ret;exact⟨rfl,J,R.next T⟩
def kH(w:nS):() 214 #[nC nK 0 0] w fun e w'=>e=nP (nC nK 0 0)/\w'=w:=by
 go_enter func214,ntmps214
 go_wp2;go_ret;exact⟨rfl,rfl⟩
def YQ(w:nS):() 187 #[nC nK 0 0] w fun e w'=>e=nP (nC nK 0 0)/\w'=w:=by
 have j:=Hd (fun y:nS=>AnyF.slices_SortFunc_none Rn nK 0 (.func (.func 213) #[] #[]) y);have i:=Hd kH;go_enter func187,ntmps187
 go_wp2_with (first|(go_at_call 212;refine(j _).mono ?_;rintro e l ⟨rfl,rfl⟩)|(go_at_call 214;refine(i _).mono ?_;rintro e o ⟨rfl,rfl⟩))
 go_ret;exact⟨rfl,rfl⟩
end
