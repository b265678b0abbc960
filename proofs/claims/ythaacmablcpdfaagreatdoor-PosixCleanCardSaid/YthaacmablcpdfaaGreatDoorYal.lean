/- Items in order. -/
import Derived.Test.YthaacmablcpdfaaGreatDoorYag
import Derived.Shelf.SlSortCmp.NoneTotal
import Derived.Shelf.Small.Bits
import Derived.Test.YthaacmablcpdfaaGreatDoorYn
set_option linter.unusedVariables false
set_option maxRecDepth 100000
set_option maxHeartbeats 16000000
namespace Go.Proofs.YthaacmablcpdfaaGreatDoor
open Go.RowKit
section
open Go.RowKit Go.Shelf Go.Sort
def Y3:Go.Shelf.Ren:=⟨fun|6=>193|14=>213|15=>214|20=>222|21=>223|22=>224|23=>225|24=>226|25=>227|26=>228|27=>229|28=>230|29=>231|46=>236|47=>237|48=>238|49=>239|50=>240|57=>242|n=>n,fun|0=>0|3=>3|4=>4|5=>5|9=>9|22=>68|25=>274|39=>219|45=>298|46=>299|50=>184|53=>305|55=>156|66=>307|70=>311|76=>315|77=>316|24=>194|n=>n,fun n=>n⟩
theorem Ri:SlLaysF0.n6 Tryz.prog Y3:={
 mixed:=by kernel_rfl
 f6:=⟨Tryz.f193.name,by decide,Tryz.func193.trans (congrArg some (by kernel_rfl))⟩
 f14:=⟨Tryz.f213.name,by decide,Tryz.func213.trans (congrArg some (by kernel_rfl))⟩
 f15:=Tryz.func214.trans (congrArg some (by kernel_rfl))
 f20:=⟨Tryz.f222.name,by decide,Tryz.func222.trans (congrArg some (by kernel_rfl))⟩
 f21:=⟨Tryz.f223.name,by decide,Tryz.func223.trans (congrArg some (by kernel_rfl))⟩
 f22:=⟨Tryz.f224.name,by decide,Tryz.func224.trans (congrArg some (by kernel_rfl))⟩
 f23:=⟨Tryz.f225.name,by decide,Tryz.func225.trans (congrArg some (by kernel_rfl))⟩
 f24:=⟨Tryz.f226.name,by decide,Tryz.func226.trans (congrArg some (by kernel_rfl))⟩
 f25:=⟨Tryz.f227.name,by decide,Tryz.func227.trans (congrArg some (by kernel_rfl))⟩
 f26:=⟨Tryz.f228.name,by decide,Tryz.func228.trans (congrArg some (by kernel_rfl))⟩
 f27:=⟨Tryz.f229.name,by decide,Tryz.func229.trans (congrArg some (by kernel_rfl))⟩
 f28:=Tryz.func230.trans (congrArg some (by kernel_rfl))
 f29:=Tryz.func231.trans (congrArg some (by kernel_rfl))
 f46:=⟨Tryz.f236.name,by decide,Tryz.func236.trans (congrArg some (by kernel_rfl))⟩
 f47:=Tryz.func237.trans (congrArg some (by kernel_rfl))
 f48:=Tryz.func238.trans (congrArg some (by kernel_rfl))
 f49:=⟨Tryz.f239.name,by decide,Tryz.func239.trans (congrArg some (by kernel_rfl))⟩
 f50:=⟨Tryz.f240.name,by decide,Tryz.func240.trans (congrArg some (by kernel_rfl))⟩
 f57:=⟨Tryz.f242.name,by decide,Tryz.func242.trans (congrArg some (by kernel_rfl))⟩
 t0:=Tryz.underlying0
 a0:=Tryz.isAgg0
 z0:=Tryz.sizeOf0
 v0:=Tryz.zeroValue0
 t3:=Tryz.underlying3
 a3:=Tryz.isAgg3
 z3:=Tryz.sizeOf3
 v3:=Tryz.zeroValue3
 t4:=Tryz.underlying4
 a4:=Tryz.isAgg4
 z4:=Tryz.sizeOf4
 v4:=Tryz.zeroValue4
 t5:=Tryz.underlying5
 a5:=Tryz.isAgg5
 z5:=Tryz.sizeOf5
 v5:=Tryz.zeroValue5
 t9:=Tryz.underlying9
 a9:=Tryz.isAgg9
 z9:=Tryz.sizeOf9
 v9:=Tryz.zeroValue9
 t22:=Tryz.underlying68
 a22:=Tryz.isAgg68
 z22:=Tryz.sizeOf68
 v22:=Tryz.zeroValue68
 t25:=Tryz.underlying274
 a25:=Tryz.isAgg274
 z25:=Tryz.sizeOf274
 v25:=Tryz.zeroValue274
 t39:=Tryz.underlying219
 a39:=Tryz.isAgg219
 z39:=Tryz.sizeOf219
 v39:=Tryz.zeroValue219
 t45:=Tryz.underlying298
 a45:=Tryz.isAgg298
 z45:=Tryz.sizeOf298
 v45:=Tryz.zeroValue298
 t46:=Tryz.underlying299
 a46:=Tryz.isAgg299
 z46:=Tryz.sizeOf299
 v46:=Tryz.zeroValue299
 t50:=Tryz.underlying184
 a50:=Tryz.isAgg184
 z50:=Tryz.sizeOf184
 v50:=Tryz.zeroValue184
 t53:=Tryz.underlying305
 a53:=Tryz.isAgg305
 z53:=Tryz.sizeOf305
 v53:=Tryz.zeroValue305
 t55:=Tryz.underlying156
 a55:=Tryz.isAgg156
 z55:=Tryz.sizeOf156
 v55:=Tryz.zeroValue156
 t66:=Tryz.underlying307
 a66:=Tryz.isAgg307
 z66:=Tryz.sizeOf307
 v66:=Tryz.zeroValue307
 t70:=Tryz.underlying311
 a70:=Tryz.isAgg311
 z70:=Tryz.sizeOf311
 v70:=Tryz.zeroValue311
 t76:=Tryz.underlying315
 a76:=Tryz.isAgg315
 z76:=Tryz.sizeOf315
 v76:=Tryz.zeroValue315
 t77:=Tryz.underlying316
 a77:=Tryz.isAgg316
 z77:=Tryz.sizeOf316
 v77:=Tryz.zeroValue316}
def F8(x y:It):Bool:=Nat.blt x.1 y.1||(Nat.beq x.1 y.1&&Nat.blt x.2 y.2)
def J7(x:It):List It->List It
 | []=>[x]
 | y::l=>bif F8 y x then y::J7 x l else x::y::l
def Ie(l:List It):List It:=l.foldr J7 []
def DD(l:List It):List It:=BI (Ie l)
theorem Ld(x y:It):F8 x y=true<->x.1<y.1\/(x.1=y.1/\x.2<y.2):=by simp[F8,Nat.blt_eq,Nat.beq_eq]
theorem IM(x y:It):F8 x y=false<->¬(x.1<y.1\/(x.1=y.1/\x.2<y.2)):=by rw[<-Ld];cases F8 x y<;>simp
theorem Sv(x:It)(l:List It):(J7 x l).Perm (x::l):=by
 induction l with
 | nil=>exact List.Perm.refl _
 | cons y l i=>
  unfold J7;cases F8 y x
  ·exact List.Perm.refl _
  ·exact(i.cons y).trans (List.Perm.swap x y l)
theorem N2(l:List It):(Ie l).Perm l:=by
 induction l with
 | nil=>exact List.Perm.refl _
 | cons x l i=>exact(Sv x _).trans (i.cons x)
theorem XK(x:It)(l:List It)(h:l.Pairwise fun a b=>F8 b a=false):(J7 x l).Pairwise fun a b=>F8 b a=false:=by
 induction l with
 | nil=>exact List.pairwise_singleton _ _
 | cons y l p=>
  have j:=List.pairwise_cons.1 h;unfold J7;cases o:F8 y x
  ·refine List.pairwise_cons.2 ⟨fun z i=>?_,h⟩
   rcases List.mem_cons.1 i with rfl|i
   ·exact o
   ·have:=j.1 z i
    rw[IM]at *;omega
  ·refine List.pairwise_cons.2 ⟨fun z i=>?_,p j.2⟩
   rcases List.mem_cons.1 ((Sv x l).mem_iff.1 i) with rfl|i
   ·rw[Ld]at o
    rw[IM];omega
   ·exact j.1 z i
theorem Wz(l:List It):(Ie l).Pairwise fun a b=>F8 b a=false:=by
 induction l with
 | nil=>exact List.Pairwise.nil
 | cons x l i=>exact XK x _ i
theorem Rc(l:List It):(Ie l).length=l.length:=(N2 l).length_eq
abbrev Ic:={x:It // x.1<=100000/\x.2<=100000}
instance:Inhabited Ic:=⟨⟨(0,0),by decide⟩⟩
def Ec(x:Ic):List Value:=AZ x.1
def Hq(x y:Ic):Int:=if x.1.1=y.1.1 then(x.1.2:Int)-y.1.2 else(x.1.1:Int)-y.1.1
theorem K9(x y:Ic):ltOf Hq x y=F8 x.1 y.1:=by unfold ltOf Hq;rw[Bool.eq_iff_iff,Ld,decide_eq_true_iff];split<;>omega
theorem gI:SWO (ltOf Hq) where
 irrefl x:=by rw[K9,IM];omega
 trans x y z i j:=by rw[K9,Ld]at *;omega
 ntrans x y z i j:=by rw[K9,IM]at *;omega
theorem Vg(x y:Ic)(i:ltOf Hq x y=false)(j:ltOf Hq y x=false):x=y:=by rw[K9,IM]at *;exact Subtype.ext (Prod.ext (by omega) (by omega))
theorem XM{d:List Ic}:(d.mergeSort fun x y=>!(ltOf Hq) y x).map (·.1)=Ie (d.map (·.1)):=by
 have e:(d.mergeSort fun x y=>!(ltOf Hq) y x).map (·.1)=(d.map (·.1)).mergeSort fun x y=>!F8 y x:=List.map_mergeSort fun a _ b _=>by rw[K9]
 rw[e];refine List.Perm.eq_of_pairwise (le:=fun x y=>(!F8 y x)=true) ?_ ?_ ?_ ((List.mergeSort_perm _ _).trans (N2 _).symm)
 ·intro a b _ _ i j
  simp only[Bool.not_eq_true',IM]at i j;exact Prod.ext (by omega) (by omega)
 ·refine List.pairwise_mergeSort ?_ ?_ _
  ·intro a b c i j
   simp only[Bool.not_eq_true',IM]at i j ⊢;omega
  ·intro a b
   cases h:F8 b a with
   | false=>simp
   | true=>
    rw[Ld]at h;have:F8 a b=false:=by rw[IM];omega
    simp[this]
 ·simpa using Wz (d.map (·.1))
theorem XH(r:List It)(j:Nat)(i:j<r.length*2):(r.flatMap AZ)[j]?=(AZ (r[j/2]'(by omega)))[j%2]?:=by have:=CZ AZ 2 (fun _=>rfl) r (j/2) (j%2) (by omega) (by omega);rw[show j/2*2+j%2=j by omega]at this;exact this
theorem Q0(d:Array Ic):(flatK Ec 2 d).toList=(d.toList.map (·.1)).flatMap AZ:=by
 apply List.ext_getElem?;intro j;by_cases i:j<d.size*2
 ·rw[XH _ _ (by simpa using i)]
  have l:=get_flatK Ec 2 d j i;have p:j/2<d.size:=by omega
  rw[getElem!_pos _ _ (by simpa using i),getElem!_pos d _ p]at l;rw[Array.getElem?_toList,Array.getElem?_eq_getElem (by simpa using i),l];have o:j%2<(Ec d[j/2]).length:=by show _<2;omega
  rw[getElem!_pos (Ec d[j/2]) (j%2) o,List.getElem_map,Array.getElem_toList];exact(eG o).symm
 ·rw[nG (by simp;omega),nG (by rw[L1];simp;omega)]
theorem UX{w:World}{B g c:Nat}{d:Array Ic}(h:DJ w B g d.size c (d.toList.map (·.1))):HoldsK Ec 2 w g 0 d:=by
 intro j i;have o:j<d.size*2:=by simpa using i
 have l:=Bf h j o;rw[<-Q0 d,Array.getElem?_toList,Array.getElem?_eq_getElem i]at l;rw[Nat.zero_add,getElem!_pos (flatK Ec 2 d) j i];exact⟨l,GX h j⟩
theorem Z4(i:Array Value)(F:Array Value)(h:F.size<=i.size):(putCells id 0 F i).size=i.size/\(putCells id 0 F i).toList.take F.size=F.toList:=by
 refine⟨by simp[putCells],?_⟩;apply List.ext_getElem?;intro j;by_cases l:j<F.size
 ·rw[List.getElem?_take_of_lt l,Array.getElem?_toList,Array.getElem?_eq_getElem (by simp[putCells];omega),Array.getElem?_toList,Array.getElem?_eq_getElem l]
  simp[putCells,l]
 ·rw[nG (by simp;omega),nG (by simp;omega)]
theorem XE{w:World}{B g n c m:Nat}{l:List It}{d:Array Ic}{os:Array Obj}(h:DJ w B g n c l)(i:d.size=n):DJ (sortWorldK Ec 2 w g 0 m d os) B g n c (d.toList.map (·.1))/\Aj (·=g) w (sortWorldK Ec 2 w g 0 m d os):=by
 rcases h.2 with⟨j,_⟩|⟨g',cap,t,j,R,J,C,P,I,h4⟩
 ·cases j
 cases j
 have a0:=(aG.1 J).1;have hF:=Z4 t (flatK Ec 2 d) (by rw[size_flatK,i,I];exact Nat.mul_le_mul_right 2 C);have p:(sortWorldK Ec 2 w g 0 m d os).heap=w.heap.modify g (onCells (putCells id 0 (flatK Ec 2 d)))++os:=rfl;have o:(w.heap.modify g (onCells (putCells id 0 (flatK Ec 2 d)))).size=w.heap.size:=Array.size_modify;have T:(sortWorldK Ec 2 w g 0 m d os).heap[g]?=some (.cells (putCells id 0 (flatK Ec 2 d) t) 194 (0,0)):=by rw[p,Array.getElem?_append_left (by rw[o];exact a0),Array.getElem?_modify,if_pos rfl,J];rfl
 refine⟨⟨by rw[L1];simp[i],.inr ⟨g,c,_,rfl,R,T,C,P,by rw[hF.1,I],?_⟩⟩,⟨rfl,rfl,rfl,by rw[p,Array.size_append,o];omega,fun k U hx=>?_⟩⟩
 ·rw[<-Q0,<-hF.2,size_flatK,i]
 ·rw[p,Array.getElem?_append_left (by rw[o];exact U),Array.getElem?_modify,if_neg (by rintro rfl;exact hx rfl)]
theorem ZE{w:World}{B g n c:Nat}{l:List It}(h:DJ w B g n c l)(hn:n<=100000)(C:∀x∈l,x.1<=100000/\x.2<=100000):Calls Tryz.prog 193 #[.slice (some ⟨g,0,none⟩) n c,.func (.func 194) #[] #[]] w fun e w'=>e=.returned (.tuple #[])/\DJ w' B g n c (Ie l)/\Aj (·=g) w w':=by
 have a2:=Jk h;have i:(l.attachWith (fun x=>x.1<=100000/\x.2<=100000) C).map (·.1)=l:=List.attachWith_map_subtype_val C;generalize hd:(l.attachWith (fun x=>x.1<=100000/\x.2<=100000) C)=dl at i;clear hd;have p:dl.length=n:=by rw[<-a2,<-i,lM]
 have T:∀args w,(callFunc 194 args).run Tryz.prog w=.ok (.enter 194 args) w:=enters_of Tryz.func194 (by kernel_rfl) rfl;have hg:g<w.heap.size:=by
  rcases h.2 with⟨t,_⟩|⟨g',cap,a3,t,hb,a1,_⟩
  ·cases t
  ·cases t;exact(aG.1 a1).1
 have a0:CmpLays Tryz.prog 194 #[] Ec 2 Hq g 0 dl.toArray.size w:=fun m J R I x y=>by refine(Vn (sortWorldK Ec 2 w g 0 m R J) x.1 y.1 x.2 y.2).mono ?_;rintro e w' ⟨rfl,rfl⟩;exact⟨rfl,0,#[.cells #[.int .i64 x.1.1,.int .i64 x.1.2] 194]++#[.cells #[.int .i64 y.1.1,.int .i64 y.1.2] 194],by rw[alloc_eq_grow,alloc_eq_grow,grow_grow];rfl⟩
 have U:HoldsK Ec 2 w g 0 dl.toArray:=UX (B:=B) (c:=c) (by simp only[List.size_toArray];rw[p,i];exact h);have o:=AnyQ.slices_SortFunc_total Ri 2 Tryz.isAgg194 Tryz.sizeOf194 Ec (fun _=>rfl) (fun x v P=>by simp[Ec,AZ]at P;rcases P with rfl|rfl<;>rfl) Hq gI 194 #[] g 0 c dl.toArray w T a0 U hg (by simp;omega) Vg;change Calls Tryz.prog 193 #[.slice (some ⟨g,0,none⟩) dl.length c,_] w _ at o;rw[p]at o;refine o.mono ?_;rintro e w' ⟨rfl,m,J,rfl⟩;have I:=XE (m:=m) (os:=J) (d:=(dl.mergeSort fun x y=>!(ltOf Hq) y x).toArray) h (by simp[p])
 refine⟨rfl,?_,I.2⟩;have j:=I.1;simp only at j;rw[XM,i]at j;exact j
theorem Wk{w:World}{B g n c:Nat}{l:List It}(h:DJ w B g n c l)(p:n<=100000)(a0:n<=c)(U:∀x∈l,x.1<=100000/\x.2<=100000):Calls Tryz.prog 149 #[.slice (some ⟨g,0,none⟩) n c] w fun e w'=>e=.returned (.slice (some ⟨g,0,none⟩) (DD l).length c)/\DJ w' B g (DD l).length c (DD l)/\Aj (·=g) w w':=by
 have i:=Hd (ZE h p U);have P:=Hd (fun(y:World) (r:List It) (hy:DJ y B g n c r)=>Vw hy p a0);clear h;unfold DD;generalize Ie l=r at i ⊢;go_enter Tryz.func149,Tryz.ntmps149
 go_wp2_with (first|(go_at_call 193;refine i.out.mono ?_;rintro e w1 ⟨rfl,j,t⟩;have I:=Hd j;have R:=Hd t;clear j t)|(go_at_call 195;refine(P.out _ _ I.out).mono ?_;rintro e w2 ⟨rfl,o,C⟩;have J:=Hd o;have T:=Hd C;clear o C))
 go_ret;exact⟨rfl,J.out,R.out.next T.out⟩
theorem VN(w:World):Calls Tryz.prog 195 #[.slice none 0 0] w fun e w'=>e=.returned (.slice none 0 0)/\w'=w:=by
 go_enter Tryz.func195,Tryz.ntmps195
 go_wp2;go_ret;exact⟨rfl,rfl⟩
theorem YC(w:World):Calls Tryz.prog 149 #[.slice none 0 0] w fun e w'=>e=.returned (.slice none 0 0)/\w'=w:=by
 have j:=Hd (fun y:World=>AnyF.slices_SortFunc_none Ri none 0 (.func (.func 194) #[] #[]) y);have i:=Hd VN;go_enter Tryz.func149,Tryz.ntmps149
 go_wp2_with (first|(go_at_call 193;refine(j.out _).mono ?_;rintro e l ⟨rfl,rfl⟩)|(go_at_call 195;refine(i.out _).mono ?_;rintro e o ⟨rfl,rfl⟩))
 go_ret;exact⟨rfl,rfl⟩
end
end Go.Proofs.YthaacmablcpdfaaGreatDoor
