/- Items in order. -/
import Derived.Test.YthaacmablcpdfaaGreatDoorXag
import Derived.Shelf.SlSortCmp.NoneTotal
import Derived.Shelf.Small.Bits
set_option linter.all false
set_option maxRecDepth 100000
set_option maxHeartbeats 16000000
namespace Go.Proofs.YthaacmablcpdfaaGreatDoor
open Go.RowKit Go.Proofs.Tryz
variable{w:World}{l:List It}
section
open Go.RowKit Go.Proofs.Tryz Go.Shelf Go.Sort
def Ze:Go.Shelf.Ren:=⟨fun|6=>193|14=>213|15=>214|20=>222|21=>223|22=>224|23=>225|24=>226|25=>227|26=>228|27=>229|28=>230|29=>231|46=>236|47=>237|48=>238|49=>239|50=>240|57=>242|n=>n,fun|0=>0|3=>3|4=>4|5=>5|9=>9|22=>68|25=>274|39=>219|45=>298|46=>299|50=>184|53=>305|55=>156|66=>307|70=>311|76=>315|77=>316|24=>194|n=>n,fun n=>n⟩
def Ut:SlLaysF0.n6 Tryz.prog Ze:={
 mixed:=by kernel_rfl
 f6:=⟨Tryz.f193.name,by decide,func193.trans (congrArg some (by kernel_rfl))⟩
 f14:=⟨Tryz.f213.name,by decide,func213.trans (congrArg some (by kernel_rfl))⟩
 f15:=func214.trans (congrArg some (by kernel_rfl))
 f20:=⟨Tryz.f222.name,by decide,func222.trans (congrArg some (by kernel_rfl))⟩
 f21:=⟨Tryz.f223.name,by decide,func223.trans (congrArg some (by kernel_rfl))⟩
 f22:=⟨Tryz.f224.name,by decide,func224.trans (congrArg some (by kernel_rfl))⟩
 f23:=⟨Tryz.f225.name,by decide,func225.trans (congrArg some (by kernel_rfl))⟩
 f24:=⟨Tryz.f226.name,by decide,func226.trans (congrArg some (by kernel_rfl))⟩
 f25:=⟨Tryz.f227.name,by decide,func227.trans (congrArg some (by kernel_rfl))⟩
 f26:=⟨Tryz.f228.name,by decide,func228.trans (congrArg some (by kernel_rfl))⟩
 f27:=⟨Tryz.f229.name,by decide,func229.trans (congrArg some (by kernel_rfl))⟩
 f28:=func230.trans (congrArg some (by kernel_rfl))
 f29:=func231.trans (congrArg some (by kernel_rfl))
 f46:=⟨Tryz.f236.name,by decide,func236.trans (congrArg some (by kernel_rfl))⟩
 f47:=func237.trans (congrArg some (by kernel_rfl))
 f48:=func238.trans (congrArg some (by kernel_rfl))
 f49:=⟨Tryz.f239.name,by decide,func239.trans (congrArg some (by kernel_rfl))⟩
 f50:=⟨Tryz.f240.name,by decide,func240.trans (congrArg some (by kernel_rfl))⟩
 f57:=⟨Tryz.f242.name,by decide,func242.trans (congrArg some (by kernel_rfl))⟩
 t0:=underlying0
 a0:=Tryz.isAgg0
 z0:=Tryz.sizeOf0
 v0:=Tryz.zeroValue0
 t3:=underlying3
 a3:=Tryz.isAgg3
 z3:=Tryz.sizeOf3
 v3:=Tryz.zeroValue3
 t4:=underlying4
 a4:=Tryz.isAgg4
 z4:=Tryz.sizeOf4
 v4:=Tryz.zeroValue4
 t5:=underlying5
 a5:=Tryz.isAgg5
 z5:=Tryz.sizeOf5
 v5:=Tryz.zeroValue5
 t9:=underlying9
 a9:=Tryz.isAgg9
 z9:=Tryz.sizeOf9
 v9:=Tryz.zeroValue9
 t22:=underlying68
 a22:=Tryz.isAgg68
 z22:=Tryz.sizeOf68
 v22:=Tryz.zeroValue68
 t25:=underlying274
 a25:=Tryz.isAgg274
 z25:=Tryz.sizeOf274
 v25:=Tryz.zeroValue274
 t39:=underlying219
 a39:=Tryz.isAgg219
 z39:=Tryz.sizeOf219
 v39:=Tryz.zeroValue219
 t45:=underlying298
 a45:=Tryz.isAgg298
 z45:=Tryz.sizeOf298
 v45:=Tryz.zeroValue298
 t46:=underlying299
 a46:=Tryz.isAgg299
 z46:=Tryz.sizeOf299
 v46:=Tryz.zeroValue299
 t50:=underlying184
 a50:=Tryz.isAgg184
 z50:=Tryz.sizeOf184
 v50:=Tryz.zeroValue184
 t53:=underlying305
 a53:=Tryz.isAgg305
 z53:=Tryz.sizeOf305
 v53:=Tryz.zeroValue305
 t55:=underlying156
 a55:=Tryz.isAgg156
 z55:=Tryz.sizeOf156
 v55:=Tryz.zeroValue156
 t66:=underlying307
 a66:=Tryz.isAgg307
 z66:=Tryz.sizeOf307
 v66:=Tryz.zeroValue307
 t70:=underlying311
 a70:=Tryz.isAgg311
 z70:=Tryz.sizeOf311
 v70:=Tryz.zeroValue311
 t76:=underlying315
 a76:=Tryz.isAgg315
 z76:=Tryz.sizeOf315
 v76:=Tryz.zeroValue315
 t77:=underlying316
 a77:=Tryz.isAgg316
 z77:=Tryz.sizeOf316
 v77:=Tryz.zeroValue316}
def Fz(x y:It):Bool:=Nat.blt x.1 y.1||(Nat.beq x.1 y.1&&Nat.blt x.2 y.2)
def KV(x:It):List It->List It
 | []=>[x]
 | y::l=>bif Fz y x then y::KV x l else x::y::l
def IT(l:List It):List It:=l.foldr KV []
def DE(l:List It):List It:=BR (IT l)
def LN(x y:It):Fz x y=true<->x.1<y.1\/(x.1=y.1/\x.2<y.2):=by simp[Fz,Nat.blt_eq,Nat.beq_eq]
def Jj(x y:It):Fz x y=false<->¬(x.1<y.1\/(x.1=y.1/\x.2<y.2)):=by rw[<-LN];cases Fz x y<;>simp
theorem SC(x:It)(l:List It):(KV x l).Perm (x::l):=by
 induction l with
 | nil=>exact List.Perm.refl _
 | cons y l i=>
  unfold KV;cases Fz y x
  ·exact List.Perm.refl _
  ·exact(i.cons y).trans (List.Perm.swap x y l)
theorem Nk(l:List It):(IT l).Perm l:=by
 induction l with
 | nil=>exact List.Perm.refl _
 | cons x l i=>exact(SC x _).trans (i.cons x)
theorem aP(x:It)(l:List It)(h:l.Pairwise fun a b=>Fz b a=false):(KV x l).Pairwise fun a b=>Fz b a=false:=by
 induction l with
 | nil=>exact List.pairwise_singleton _ _
 | cons y l p=>
  have j:=List.pairwise_cons.1 h;unfold KV;cases o:Fz y x
  ·refine List.pairwise_cons.2 ⟨fun z i=>?_,h⟩
   rcases List.mem_cons.1 i with rfl|i
   ·exact o
   ·have:=j.1 z i
    rw[Jj]at *;omega
  ·refine List.pairwise_cons.2 ⟨fun z i=>?_,p j.2⟩
   rcases List.mem_cons.1 ((SC x l).mem_iff.1 i) with rfl|i
   ·rw[LN]at o
    rw[Jj];omega
   ·exact j.1 z i
theorem gR(l:List It):(IT l).Pairwise fun a b=>Fz b a=false:=by
 induction l with
 | nil=>exact List.Pairwise.nil
 | cons x l i=>exact aP x _ i
def SV(l:List It):(IT l).length=l.length:=(Nk l).length_eq
abbrev IA:={x:It // x.1<=100000/\x.2<=100000}
instance:Inhabited IA:=⟨⟨(0,0),by decide⟩⟩
def Ez(x:IA):List Value:=Bc x.1
def Ih(x y:IA):Int:=if x.1.1=y.1.1 then(x.1.2:Int)-y.1.2 else(x.1.1:Int)-y.1.1
def Lw(x y:IA):ltOf Ih x y=Fz x.1 y.1:=by unfold ltOf Ih;rw[Bool.eq_iff_iff,LN,decide_eq_true_iff];split<;>omega
def bV:SWO (ltOf Ih) where
 irrefl x:=by rw[Lw,Jj];omega
 trans x y z i j:=by rw[Lw,LN]at *;omega
 ntrans x y z i j:=by rw[Lw,Jj]at *;omega
def aA(x y:IA)(i:ltOf Ih x y=false)(j:ltOf Ih y x=false):x=y:=by rw[Lw,Jj]at *;exact Subtype.ext (Prod.ext (by omega) (by omega))
def Yx{d:List IA}:(d.mergeSort fun x y=>!(ltOf Ih) y x).map (·.1)=IT (d.map (·.1)):=by
 have e:(d.mergeSort fun x y=>!(ltOf Ih) y x).map (·.1)=(d.map (·.1)).mergeSort fun x y=>!Fz y x:=List.map_mergeSort fun a _ b _=>by rw[Lw]
 rw[e];refine List.Perm.eq_of_pairwise (le:=fun x y=>(!Fz y x)=true) ?_ ?_ ?_ ((List.mergeSort_perm _ _).trans (Nk _).symm)
 ·intro a b _ _ i j
  simp only[Bool.not_eq_true',Jj]at i j;exact Prod.ext (by omega) (by omega)
 ·refine List.pairwise_mergeSort ?_ ?_ _
  ·intro a b c i j
   simp only[Bool.not_eq_true',Jj]at i j ⊢;omega
  ·intro a b
   cases h:Fz b a with
   | false=>simp
   | true=>
    rw[LN]at h;have:Fz a b=false:=by rw[Jj];omega
    simp[this]
 ·simpa using gR (d.map (·.1))
def bJ(r:List It)(j:Nat)(i:j<r.length*2):(r.flatMap Bc)[j]?=(Bc (r[j/2]'(by omega)))[j%2]?:=by have:=CY Bc 2 (fun _=>rfl) r (j/2) (j%2) (by omega) (by omega);rw[show j/2*2+j%2=j by omega]at this;exact this
def Qj(d:Array IA):(flatK Ez 2 d).toList=(d.toList.map (·.1)).flatMap Bc:=by
 apply List.ext_getElem?;intro j;by_cases i:j<d.size*2
 ·rw[bJ _ _ (by simpa using i)]
  have l:=get_flatK Ez 2 d j i;have p:j/2<d.size:=by omega
  rw[getElem!_pos _ _ (by simpa using i),getElem!_pos d _ p]at l;rw[Array.getElem?_toList,Array.getElem?_eq_getElem (by simpa using i),l];have o:j%2<(Ez d[j/2]).length:=by show _<2;omega
  rw[getElem!_pos (Ez d[j/2]) (j%2) o,List.getElem_map,Array.getElem_toList];exact(eG o).symm
 ·rw[nG (by simp;omega),nG (by rw[ML];simp;omega)]
def YL{B g c:Nat}{d:Array IA}(h:DW w B g d.size c (d.toList.map (·.1))):HoldsK Ez 2 w g 0 d:=by
 intro j i;have o:j<d.size*2:=by simpa using i
 have l:=Bg h j o;rw[<-Qj d,Array.getElem?_toList,Array.getElem?_eq_getElem i]at l;rw[Nat.zero_add,getElem!_pos (flatK Ez 2 d) j i];exact⟨l,GD h j⟩
def Yl(i:Array Value)(F:Array Value)(h:F.size<=i.size):(putCells id 0 F i).size=i.size/\(putCells id 0 F i).toList.take F.size=F.toList:=by
 refine⟨by simp[putCells],?_⟩;apply List.ext_getElem?;intro j;by_cases l:j<F.size
 ·rw[List.getElem?_take_of_lt l,Array.getElem?_toList,Array.getElem?_eq_getElem (by simp[putCells];omega),Array.getElem?_toList,Array.getElem?_eq_getElem l]
  simp[putCells,l]
 ·rw[nG (by simp;omega),nG (by simp;omega)]
def fK{B g n c m:Nat}{d:Array IA}{os:Array Obj}(h:DW w B g n c l)(i:d.size=n):DW (sortWorldK Ez 2 w g 0 m d os) B g n c (d.toList.map (·.1))/\Aj (·=g) w (sortWorldK Ez 2 w g 0 m d os):=by
 rcases h.2 with⟨j,_⟩|⟨g',cap,t,j,R,J,C,P,I,h4⟩
 ·cases j
 cases j
 have a0:=(aG.1 J).1;have hF:=Yl t (flatK Ez 2 d) (by rw[size_flatK,i,I];exact Nat.mul_le_mul_right 2 C);have p:(sortWorldK Ez 2 w g 0 m d os).heap=w.heap.modify g (onCells (putCells id 0 (flatK Ez 2 d)))++os:=rfl;have o:(w.heap.modify g (onCells (putCells id 0 (flatK Ez 2 d)))).size=w.heap.size:=Array.size_modify;have T:(sortWorldK Ez 2 w g 0 m d os).heap[g]?=some (.cells (putCells id 0 (flatK Ez 2 d) t) 194 (0,0)):=by rw[p,Array.getElem?_append_left (by rw[o];exact a0),Array.getElem?_modify,if_pos rfl,J];rfl
 refine⟨⟨by rw[ML];simp[i],.inr ⟨g,c,_,rfl,R,T,C,P,by rw[hF.1,I],?_⟩⟩,⟨rfl,rfl,rfl,by rw[p,Array.size_append,o];omega,fun k U hx=>?_⟩⟩
 ·rw[<-Qj,<-hF.2,size_flatK,i]
 ·rw[p,Array.getElem?_append_left (by rw[o];exact U),Array.getElem?_modify,if_neg (by rintro rfl;exact hx rfl)]
def X6{B g n c:Nat}(h:DW w B g n c l)(hn:n<=100000)(C:∀x∈l,x.1<=100000/\x.2<=100000):() 193 #[.slice (g,0) n c,.func (.func 194) #[] #[]] w fun e w'=>e=.returned (.tuple #[])/\DW w' B g n c (IT l)/\Aj (·=g) w w':=by
 have a2:=JG h;have i:(l.attachWith (fun x=>x.1<=100000/\x.2<=100000) C).map (·.1)=l:=List.attachWith_map_subtype_val C;generalize hd:(l.attachWith (fun x=>x.1<=100000/\x.2<=100000) C)=dl at i;clear hd;have p:dl.length=n:=by rw[<-a2,<-i,lM]
 have T:∀args w,(callFunc 194 args).run Tryz.prog w=.ok (.enter 194 args) w:=enters_of func194 (by kernel_rfl) rfl;have hg:g<w.heap.size:=by
  rcases h.2 with⟨t,_⟩|⟨g',cap,a3,t,hb,a1,_⟩
  ·cases t
  ·cases t;exact(aG.1 a1).1
 have a0:CmpLays Tryz.prog 194 #[] Ez 2 Ih g 0 dl.toArray.size w:=fun m J R I x y=>by refine(Wa (sortWorldK Ez 2 w g 0 m R J) x.1 y.1 x.2 y.2).mono ?_;rintro e w' ⟨rfl,rfl⟩;exact⟨rfl,0,#[.cells #[x.1.1,x.1.2] 194]++#[.cells #[y.1.1,y.1.2] 194],by rw[alloc_eq_grow,alloc_eq_grow,grow_grow];rfl⟩
 have U:HoldsK Ez 2 w g 0 dl.toArray:=YL (B:=B) (c:=c) (by simp only[List.size_toArray];rw[p,i];exact h);have o:=AnyQ.slices_SortFunc_total Ut 2 Tryz.isAgg194 Tryz.sizeOf194 Ez (fun _=>rfl) (fun x v P=>by simp[Ez,Bc]at P;rcases P with rfl|rfl<;>rfl) Ih bV 194 #[] g 0 c dl.toArray w T a0 U hg (by simp;omega) aA;change Calls Tryz.prog 193 #[.slice (some ⟨g,0,none⟩) dl.length c,_] w _ at o;rw[p]at o;refine o.mono ?_;rintro e w' ⟨rfl,m,J,rfl⟩;have I:=fK (m:=m) (os:=J) (d:=(dl.mergeSort fun x y=>!(ltOf Ih) y x).toArray) h (by simp[p])
 refine⟨rfl,?_,I.2⟩;have j:=I.1;simp only at j;rw[Yx,i]at j;exact j
def VI{B g n c:Nat}(h:DW w B g n c l)(p:n<=100000)(a0:n<=c)(U:∀x∈l,x.1<=100000/\x.2<=100000):() 149 #[.slice (g,0) n c] w fun e w'=>e=.returned (.slice (g,0) (DE l).length c)/\DW w' B g (DE l).length c (DE l)/\Aj (·=g) w w':=by
 have i:=Hd (X6 h p U);have P:=Hd (fun(y:World) (r:List It) (hy:DW y B g n c r)=>iF hy p a0);clear h;unfold DE;generalize IT l=r at i ⊢;go_enter func149,ntmps149
 go_wp2_with (first|(go_at_call 193;refine i.mono ?_;rintro e w1 ⟨rfl,j,t⟩;have I:=Hd j;have R:=Hd t;clear j t)|(go_at_call 195;refine(P _ _ I).mono ?_;rintro e w2 ⟨rfl,o,C⟩;have J:=Hd o;have T:=Hd C;clear o C))
 go_ret;exact⟨rfl,J,R.next T⟩
def Zm(w:World):() 195 #[.slice none 0 0] w fun e w'=>e=.returned (.slice none 0 0)/\w'=w:=by
 go_enter func195,ntmps195
 go_wp2;go_ret;exact⟨rfl,rfl⟩
def U4(w:World):() 149 #[.slice none 0 0] w fun e w'=>e=.returned (.slice none 0 0)/\w'=w:=by
 have j:=Hd (fun y:World=>AnyF.slices_SortFunc_none Ut none 0 (.func (.func 194) #[] #[]) y);have i:=Hd Zm;go_enter func149,ntmps149
 go_wp2_with (first|(go_at_call 193;refine(j _).mono ?_;rintro e l ⟨rfl,rfl⟩)|(go_at_call 195;refine(i _).mono ?_;rintro e o ⟨rfl,rfl⟩))
 go_ret;exact⟨rfl,rfl⟩
end
end Go.Proofs.YthaacmablcpdfaaGreatDoor
