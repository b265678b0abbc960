/- Items in order. -/
import Derived.Test.YtlogpnoioimhjaaGreatDoorXag
import Derived.Shelf.SlSortCmp.NoneTotal
import Derived.Shelf.Small.Bits
set_option linter.all false
set_option maxRecDepth 100000
set_option maxHeartbeats 16000000
namespace Go.Proofs.YtlogpnoioimhjaaGreatDoor
open Go.RowKit Go.Proofs.Tryz
variable{w:World}{l:List It}
section
open Go.RowKit Go.Proofs.Tryz Go.Shelf Go.Sort
def Yl:Go.Shelf.Ren:=⟨fun|6=>184|14=>200|15=>201|20=>210|21=>211|22=>212|23=>213|24=>214|25=>215|26=>216|27=>217|28=>218|29=>219|46=>221|47=>222|48=>223|49=>224|50=>225|57=>226|n=>n,fun|0=>0|3=>3|4=>4|5=>5|9=>9|22=>122|25=>287|39=>284|45=>308|46=>309|50=>201|53=>315|55=>256|66=>319|70=>323|76=>325|77=>326|24=>213|n=>n,fun n=>n⟩
def Uz:SlLaysF0.n6 Tryz.prog Yl:={
 mixed:=by kernel_rfl
 f6:=⟨Tryz.f184.name,by decide,func184.trans (congrArg some (by kernel_rfl))⟩
 f14:=⟨Tryz.f200.name,by decide,func200.trans (congrArg some (by kernel_rfl))⟩
 f15:=func201.trans (congrArg some (by kernel_rfl))
 f20:=⟨Tryz.f210.name,by decide,func210.trans (congrArg some (by kernel_rfl))⟩
 f21:=⟨Tryz.f211.name,by decide,func211.trans (congrArg some (by kernel_rfl))⟩
 f22:=⟨Tryz.f212.name,by decide,func212.trans (congrArg some (by kernel_rfl))⟩
 f23:=⟨Tryz.f213.name,by decide,func213.trans (congrArg some (by kernel_rfl))⟩
 f24:=⟨Tryz.f214.name,by decide,func214.trans (congrArg some (by kernel_rfl))⟩
 f25:=⟨Tryz.f215.name,by decide,func215.trans (congrArg some (by kernel_rfl))⟩
 f26:=⟨Tryz.f216.name,by decide,func216.trans (congrArg some (by kernel_rfl))⟩
 f27:=⟨Tryz.f217.name,by decide,func217.trans (congrArg some (by kernel_rfl))⟩
 f28:=func218.trans (congrArg some (by kernel_rfl))
 f29:=func219.trans (congrArg some (by kernel_rfl))
 f46:=⟨Tryz.f221.name,by decide,func221.trans (congrArg some (by kernel_rfl))⟩
 f47:=func222.trans (congrArg some (by kernel_rfl))
 f48:=func223.trans (congrArg some (by kernel_rfl))
 f49:=⟨Tryz.f224.name,by decide,func224.trans (congrArg some (by kernel_rfl))⟩
 f50:=⟨Tryz.f225.name,by decide,func225.trans (congrArg some (by kernel_rfl))⟩
 f57:=⟨Tryz.f226.name,by decide,func226.trans (congrArg some (by kernel_rfl))⟩
 t0:=underlying0
 a0:=Tryz.isAgg0
 z0:=Tryz.sizeOf0
 v0:=Tryz.zeroValue0
 t3:=underlying3
 a3:=Tryz.isAgg3
 z3:=Tryz.sizeOf3
 v3:=Tryz.zeroValue3
 t4:=underlying4
 a4:=Tryz.isAgg4
 z4:=Tryz.sizeOf4
 v4:=Tryz.zeroValue4
 t5:=underlying5
 a5:=Tryz.isAgg5
 z5:=Tryz.sizeOf5
 v5:=Tryz.zeroValue5
 t9:=underlying9
 a9:=Tryz.isAgg9
 z9:=Tryz.sizeOf9
 v9:=Tryz.zeroValue9
 t22:=underlying122
 a22:=Tryz.isAgg122
 z22:=Tryz.sizeOf122
 v22:=Tryz.zeroValue122
 t25:=underlying287
 a25:=Tryz.isAgg287
 z25:=Tryz.sizeOf287
 v25:=Tryz.zeroValue287
 t39:=underlying284
 a39:=Tryz.isAgg284
 z39:=Tryz.sizeOf284
 v39:=Tryz.zeroValue284
 t45:=underlying308
 a45:=Tryz.isAgg308
 z45:=Tryz.sizeOf308
 v45:=Tryz.zeroValue308
 t46:=underlying309
 a46:=Tryz.isAgg309
 z46:=Tryz.sizeOf309
 v46:=Tryz.zeroValue309
 t50:=underlying201
 a50:=Tryz.isAgg201
 z50:=Tryz.sizeOf201
 v50:=Tryz.zeroValue201
 t53:=underlying315
 a53:=Tryz.isAgg315
 z53:=Tryz.sizeOf315
 v53:=Tryz.zeroValue315
 t55:=underlying256
 a55:=Tryz.isAgg256
 z55:=Tryz.sizeOf256
 v55:=Tryz.zeroValue256
 t66:=underlying319
 a66:=Tryz.isAgg319
 z66:=Tryz.sizeOf319
 v66:=Tryz.zeroValue319
 t70:=underlying323
 a70:=Tryz.isAgg323
 z70:=Tryz.sizeOf323
 v70:=Tryz.zeroValue323
 t76:=underlying325
 a76:=Tryz.isAgg325
 z76:=Tryz.sizeOf325
 v76:=Tryz.zeroValue325
 t77:=underlying326
 a77:=Tryz.isAgg326
 z77:=Tryz.sizeOf326
 v77:=Tryz.zeroValue326}
def FA(x y:It):Bool:=Nat.blt x.1 y.1||(Nat.beq x.1 y.1&&Nat.blt x.2 y.2)
def KG(x:It):List It->List It
 | []=>[x]
 | y::l=>bif FA y x then y::KG x l else x::y::l
def IG(l:List It):List It:=l.foldr KG []
def DB(l:List It):List It:=BM (IG l)
def LQ(x y:It):FA x y=true<->x.1<y.1\/(x.1=y.1/\x.2<y.2):=by simp[FA,Nat.blt_eq,Nat.beq_eq]
def Je(x y:It):FA x y=false<->¬(x.1<y.1\/(x.1=y.1/\x.2<y.2)):=by rw[<-LQ];cases FA x y<;>simp
theorem TI(x:It)(l:List It):(KG x l).Perm (x::l):=by
 induction l with
 | nil=>exact List.Perm.refl _
 | cons y l i=>
  unfold KG;cases FA y x
  ·exact List.Perm.refl _
  ·exact(i.cons y).trans (List.Perm.swap x y l)
theorem NV(l:List It):(IG l).Perm l:=by
 induction l with
 | nil=>exact List.Perm.refl _
 | cons x l i=>exact(TI x _).trans (i.cons x)
theorem X4(x:It)(l:List It)(h:l.Pairwise fun a b=>FA b a=false):(KG x l).Pairwise fun a b=>FA b a=false:=by
 induction l with
 | nil=>exact List.pairwise_singleton _ _
 | cons y l p=>
  have j:=List.pairwise_cons.1 h;unfold KG;cases o:FA y x
  ·refine List.pairwise_cons.2 ⟨fun z i=>?_,h⟩
   rcases List.mem_cons.1 i with rfl|i
   ·exact o
   ·have:=j.1 z i
    rw[Je]at *;omega
  ·refine List.pairwise_cons.2 ⟨fun z i=>?_,p j.2⟩
   rcases List.mem_cons.1 ((TI x l).mem_iff.1 i) with rfl|i
   ·rw[LQ]at o
    rw[Je];omega
   ·exact j.1 z i
theorem XK(l:List It):(IG l).Pairwise fun a b=>FA b a=false:=by
 induction l with
 | nil=>exact List.Pairwise.nil
 | cons x l i=>exact X4 x _ i
def Sd(l:List It):(IG l).length=l.length:=(NV l).length_eq
abbrev I2:={x:It // x.1<=100000/\x.2<=100000}
instance:Inhabited I2:=⟨⟨(0,0),by decide⟩⟩
def Eg(x:I2):List Value:=Bc x.1
def Ie(x y:I2):Int:=if x.1.1=y.1.1 then(x.1.2:Int)-y.1.2 else(x.1.1:Int)-y.1.1
def LD(x y:I2):ltOf Ie x y=FA x.1 y.1:=by unfold ltOf Ie;rw[Bool.eq_iff_iff,LQ,decide_eq_true_iff];split<;>omega
def lu:SWO (ltOf Ie) where
 irrefl x:=by rw[LD,Je];omega
 trans x y z i j:=by rw[LD,LQ]at *;omega
 ntrans x y z i j:=by rw[LD,Je]at *;omega
def XC(x y:I2)(i:ltOf Ie x y=false)(j:ltOf Ie y x=false):x=y:=by rw[LD,Je]at *;exact Subtype.ext (Prod.ext (by omega) (by omega))
def Vg{d:List I2}:(d.mergeSort fun x y=>!(ltOf Ie) y x).map (·.1)=IG (d.map (·.1)):=by
 have e:(d.mergeSort fun x y=>!(ltOf Ie) y x).map (·.1)=(d.map (·.1)).mergeSort fun x y=>!FA y x:=List.map_mergeSort fun a _ b _=>by rw[LD]
 rw[e];refine List.Perm.eq_of_pairwise (le:=fun x y=>(!FA y x)=true) ?_ ?_ ?_ ((List.mergeSort_perm _ _).trans (NV _).symm)
 ·intro a b _ _ i j
  simp only[Bool.not_eq_true',Je]at i j;exact Prod.ext (by omega) (by omega)
 ·refine List.pairwise_mergeSort ?_ ?_ _
  ·intro a b c i j
   simp only[Bool.not_eq_true',Je]at i j ⊢;omega
  ·intro a b
   cases h:FA b a with
   | false=>simp
   | true=>
    rw[LQ]at h;have:FA a b=false:=by rw[Je];omega
    simp[this]
 ·simpa using XK (d.map (·.1))
def jU(r:List It)(j:Nat)(i:j<r.length*2):(r.flatMap Bc)[j]?=(Bc (r[j/2]'(by omega)))[j%2]?:=by have:=CJ Bc 2 (fun _=>rfl) r (j/2) (j%2) (by omega) (by omega);rw[show j/2*2+j%2=j by omega]at this;exact this
def Sa(d:Array I2):(flatK Eg 2 d).toList=(d.toList.map (·.1)).flatMap Bc:=by
 apply List.ext_getElem?;intro j;by_cases i:j<d.size*2
 ·rw[jU _ _ (by simpa using i)]
  have l:=get_flatK Eg 2 d j i;have p:j/2<d.size:=by omega
  rw[getElem!_pos _ _ (by simpa using i),getElem!_pos d _ p]at l;rw[Array.getElem?_toList,Array.getElem?_eq_getElem (by simpa using i),l];have o:j%2<(Eg d[j/2]).length:=by show _<2;omega
  rw[getElem!_pos (Eg d[j/2]) (j%2) o,List.getElem_map,Array.getElem_toList];exact(eG o).symm
 ·rw[nG (by simp;omega),nG (by rw[MM];simp;omega)]
def XB{B g c:Nat}{d:Array I2}(h:DP w B g d.size c (d.toList.map (·.1))):HoldsK Eg 2 w g 0 d:=by
 intro j i;have o:j<d.size*2:=by simpa using i
 have l:=Bh h j o;rw[<-Sa d,Array.getElem?_toList,Array.getElem?_eq_getElem i]at l;rw[Nat.zero_add,getElem!_pos (flatK Eg 2 d) j i];exact⟨l,G2 h j⟩
def aQ(i:Array Value)(F:Array Value)(h:F.size<=i.size):(putCells id 0 F i).size=i.size/\(putCells id 0 F i).toList.take F.size=F.toList:=by
 refine⟨by simp[putCells],?_⟩;apply List.ext_getElem?;intro j;by_cases l:j<F.size
 ·rw[List.getElem?_take_of_lt l,Array.getElem?_toList,Array.getElem?_eq_getElem (by simp[putCells];omega),Array.getElem?_toList,Array.getElem?_eq_getElem l]
  simp[putCells,l]
 ·rw[nG (by simp;omega),nG (by simp;omega)]
def gN{B g n c m:Nat}{d:Array I2}{os:Array Obj}(h:DP w B g n c l)(i:d.size=n):DP (sortWorldK Eg 2 w g 0 m d os) B g n c (d.toList.map (·.1))/\Aj (·=g) w (sortWorldK Eg 2 w g 0 m d os):=by
 rcases h.2 with⟨j,_⟩|⟨g',cap,t,j,R,J,C,P,I,h4⟩
 ·cases j
 cases j
 have a0:=(aG.1 J).1;have hF:=aQ t (flatK Eg 2 d) (by rw[size_flatK,i,I];exact Nat.mul_le_mul_right 2 C);have p:(sortWorldK Eg 2 w g 0 m d os).heap=w.heap.modify g (onCells (putCells id 0 (flatK Eg 2 d)))++os:=rfl;have o:(w.heap.modify g (onCells (putCells id 0 (flatK Eg 2 d)))).size=w.heap.size:=Array.size_modify;have T:(sortWorldK Eg 2 w g 0 m d os).heap[g]?=some (.cells (putCells id 0 (flatK Eg 2 d) t) 213 (0,0)):=by rw[p,Array.getElem?_append_left (by rw[o];exact a0),Array.getElem?_modify,if_pos rfl,J];rfl
 refine⟨⟨by rw[MM];simp[i],.inr ⟨g,c,_,rfl,R,T,C,P,by rw[hF.1,I],?_⟩⟩,⟨rfl,rfl,rfl,by rw[p,Array.size_append,o];omega,fun k U hx=>?_⟩⟩
 ·rw[<-Sa,<-hF.2,size_flatK,i]
 ·rw[p,Array.getElem?_append_left (by rw[o];exact U),Array.getElem?_modify,if_neg (by rintro rfl;exact hx rfl)]
def Vf{B g n c:Nat}(h:DP w B g n c l)(hn:n<=100000)(C:∀x∈l,x.1<=100000/\x.2<=100000):() 184 #[.slice (g,0) n c,.func (.func 185) #[] #[]] w fun e w'=>e=.returned (.tuple #[])/\DP w' B g n c (IG l)/\Aj (·=g) w w':=by
 have a2:=JX h;have i:(l.attachWith (fun x=>x.1<=100000/\x.2<=100000) C).map (·.1)=l:=List.attachWith_map_subtype_val C;generalize hd:(l.attachWith (fun x=>x.1<=100000/\x.2<=100000) C)=dl at i;clear hd;have p:dl.length=n:=by rw[<-a2,<-i,lM]
 have T:∀args w,(callFunc 185 args).run Tryz.prog w=.ok (.enter 185 args) w:=enters_of func185 (by kernel_rfl) rfl;have hg:g<w.heap.size:=by
  rcases h.2 with⟨t,_⟩|⟨g',cap,a3,t,hb,a1,_⟩
  ·cases t
  ·cases t;exact(aG.1 a1).1
 have a0:CmpLays Tryz.prog 185 #[] Eg 2 Ie g 0 dl.toArray.size w:=fun m J R I x y=>by refine(eI (sortWorldK Eg 2 w g 0 m R J) x.1 y.1 x.2 y.2).mono ?_;rintro e w' ⟨rfl,rfl⟩;exact⟨rfl,0,#[.cells #[x.1.1,x.1.2] 213]++#[.cells #[y.1.1,y.1.2] 213],by rw[alloc_eq_grow,alloc_eq_grow,grow_grow];rfl⟩
 have U:HoldsK Eg 2 w g 0 dl.toArray:=XB (B:=B) (c:=c) (by simp only[List.size_toArray];rw[p,i];exact h);have o:=AnyQ.slices_SortFunc_total Uz 2 Tryz.isAgg213 Tryz.sizeOf213 Eg (fun _=>rfl) (fun x v P=>by simp[Eg,Bc]at P;rcases P with rfl|rfl<;>rfl) Ie lu 185 #[] g 0 c dl.toArray w T a0 U hg (by simp;omega) XC;change Calls Tryz.prog 184 #[.slice (some ⟨g,0,none⟩) dl.length c,_] w _ at o;rw[p]at o;refine o.mono ?_;rintro e w' ⟨rfl,m,J,rfl⟩;have I:=gN (m:=m) (os:=J) (d:=(dl.mergeSort fun x y=>!(ltOf Ie) y x).toArray) h (by simp[p])
 refine⟨rfl,?_,I.2⟩;have j:=I.1;simp only at j;rw[Vg,i]at j;exact j
def cS{B g n c:Nat}(h:DP w B g n c l)(p:n<=100000)(a0:n<=c)(U:∀x∈l,x.1<=100000/\x.2<=100000):() 152 #[.slice (g,0) n c] w fun e w'=>e=.returned (.slice (g,0) (DB l).length c)/\DP w' B g (DB l).length c (DB l)/\Aj (·=g) w w':=by
 have i:=Hd (Vf h p U);have P:=Hd (fun(y:World) (r:List It) (hy:DP y B g n c r)=>eN hy p a0);clear h;unfold DB;generalize IG l=r at i ⊢;go_enter func152,ntmps152
 go_wp2_with (first|(go_at_call 184;refine i.mono ?_;rintro e w1 ⟨rfl,j,t⟩;have I:=Hd j;have R:=Hd t;clear j t)|(go_at_call 186;refine(P _ _ I).mono ?_;rintro e w2 ⟨rfl,o,C⟩;have J:=Hd o;have T:=Hd C;clear o C))
 go_ret;exact⟨rfl,J,R.next T⟩
def iW(w:World):() 186 #[.slice none 0 0] w fun e w'=>e=.returned (.slice none 0 0)/\w'=w:=by
 go_enter func186,ntmps186
 go_wp2;go_ret;exact⟨rfl,rfl⟩
def fV(w:World):() 152 #[.slice none 0 0] w fun e w'=>e=.returned (.slice none 0 0)/\w'=w:=by
 have j:=Hd (fun y:World=>AnyF.slices_SortFunc_none Uz none 0 (.func (.func 185) #[] #[]) y);have i:=Hd iW;go_enter func152,ntmps152
 go_wp2_with (first|(go_at_call 184;refine(j _).mono ?_;rintro e l ⟨rfl,rfl⟩)|(go_at_call 186;refine(i _).mono ?_;rintro e o ⟨rfl,rfl⟩))
 go_ret;exact⟨rfl,rfl⟩
end
end Go.Proofs.YtlogpnoioimhjaaGreatDoor
