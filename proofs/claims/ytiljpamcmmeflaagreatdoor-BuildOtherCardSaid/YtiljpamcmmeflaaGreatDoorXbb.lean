/- . -/
import Derived.Test.YtiljpamcmmeflaaGreatDoorXay
import Derived.Test.YtiljpamcmmeflaaGreatDoorXba
set_option linter.all false
set_option maxRecDepth 100000
set_option maxHeartbeats 16000000
namespace Go.Proofs.YtiljpamcmmeflaaGreatDoor
open Go.RowKit
open Value renaming slice→nC,int→nE
open IntKind renaming i64→nM
open Ending renaming returned→nP
open Go renaming World→nS
variable{w w':nS}{v:Value}
section
set_option maxRecDepth 1000000
def lH:(match Ea FM with | .ok g=>g.T.length==pz.nt&&g.N.length==pz.nn&&g.s==pz.s&&g.R==pz.R | .error _=>false)=true:=by decide +kernel
def Zj{g:PG}(h:Ea FM=.ok g):g.T.length=pz.nt/\g.N.length=pz.nn/\g.s=pz.s/\g.R=pz.R:=by have i:=lH;rw[h]at i;simp only[Bool.and_eq_true,beq_iff_eq]at i;exact⟨i.1.1.1,i.1.1.2,i.1.2,i.2⟩
def gG(l:GN w v pz):() 78 #[v] w (S7 w pz BV Bi Ch):=by refine(VM l ZC Zq).mono ?_;rintro e p ⟨o,rfl,i,j⟩;rw[Z6]at i;exact⟨o,rfl,i,j⟩
def dC(i:GN w v pz):() 44 #[v] w (RT w pz Bi Ch):=lZ i iV Ya (fun y j=>gG (i.later j))
end
def EP.MC{g:Gz}{E:List (List It)}{K:List (List (Nat×Nat))}(h:EP (fun b=>b<w.heap.size) w v g E K)(i:Below w w w'):EP (fun b=>b<w'.heap.size) w' v g E K:=
 (h.Ay (X:=fun b=>w.heap.size<=b) (Aj.AJ i) (fun b i l=>by omega)).mono (fun b j=>AK j i.size)
def GP(w:nS)(v:Value):Prop:=∃(g:PG) (R:List Bt),Ea FM=.ok g/\MH g (R.map Bt.ru)/\Ei w v (Gm.Ds g (R.map Bt.ru))
def GP.later(h:GP w v)(o:Below w w w'):GP w' v:=by obtain⟨g,R,i,j,l⟩:=h;exact⟨g,R,i,j,l.later o⟩
def GP.gn(h:GP w v):GN w v pz:=by obtain⟨g,R,j,l,i⟩:=h;refine⟨_,i,(XI (Tm j) l).1,?_⟩;obtain⟨o,p,i,t⟩:=Zj j;unfold Gz.FN Gm.Ds;simp only[lM];have C:=l.1;rw[C,t,o,p,i];rfl
def Rb(o:FI w):() 17 #[] w fun e w'=>∃v,e=nP v/\GP w' v/\Below w w w':=by refine(XK o).mono ?_;rintro e J ⟨l,I,C,p,R,g,i,t,rfl,j⟩;exact⟨_,rfl,⟨g,R,i,lB j,Has.M0 j (Tm i)⟩,l⟩
def GH(w:nS)(tb:Nat):Prop:=∃l nT J i nN C j nR I U t nr T nt nn o na P p ng R,Ah w tb 104 #[nC l nT J,nC i nN C,nC j nR I,nE nM U,nC t nr T,nE nM nt,nE nM nn,nC o na P,nC p ng R] /\
 GP w (.agg #[nC l nT J,nC i nN C,nC j nR I,nE nM U])/\EP (fun b=>b<w.heap.size) w (.agg #[nC t nr T,nE nM nt,nE nM nn,nC o na P,nC p ng R]) pz Bi Ch
def GH.later{tb:Nat}(h:GH w tb)(i:Below w w w'):GH w' tb:=by obtain⟨p,nT,R,l,nN,J,o,nR,P,gs,I,nr,cr,nt,nn,t,na,T,C,ng,U,j,h2,h3⟩:=h;exact⟨p,nT,R,l,nN,J,o,nR,P,gs,I,nr,cr,nt,nn,t,na,T,C,ng,U,j.below i j.lt,h2.later i,h3.MC i⟩
def mj(R:GP w v):() 16 #[v] w fun e w'=>∃tb,e=nP (.tuple #[.pointer (some ⟨tb,0,none⟩),nE nM 0])/\GH w' tb/\Below w w w':=by
 have HO:=Hd (fun(y:nS) (hy:Below w w y)=>dC (R.gn.later hy));have a3:=Hd (fun(y:nS) (hy:Below w w y)=>R.later hy);obtain⟨AT,cT,AN,cN,AR,cR,rfl,-,-⟩:=R.gn.open_;have a0:=Hd (AE w (.cells #[nC AT pz.nt cT,nC AN pz.nn cN,nC AR pz.R.length cR,pz.s] 58));have a2:=Hd (Ah.new w 58 #[nC AT pz.nt cT,nC AN pz.nn cN,nC AR pz.R.length cR,pz.s]);have a4:Hid (∀J y,EP (fun b=>b<y.heap.size) y J pz Bi Ch->∃p nr I nt nn l T t o U C,J=.agg #[nC p nr I,nE nM nt,nE nM nn,nC l T t,nC o U C]):=Hd (fun J y h=>by obtain⟨p,I,l,t,o,C,e,-,-,-⟩:=h.open_;exact⟨_,_,_,_,_,_,_,_,_,_,_,e⟩)
 clear R;generalize pz.nt=n1 at *;generalize pz.nn=n2 at *;generalize pz.R.length=n3 at *;generalize pz.s=n4 at *;go_enter Tryz.func16,Tryz.ntmps16
 go_wp2_with (
  go_at_call 44;refine(HO _ a0).mono ?_;rintro e j ⟨J,rfl,ht,a1⟩
  obtain⟨p,nr,I,nt,nn,l,T,t,o,U,C,rfl⟩:=a4 J j ht;have HT:=Hd ht;have P:=Hd (a0.trans (a1.mono a0.size));have i:=a2.below a1 a2.lt;have x0:=Ah.cell i 0;have x1:=Ah.cell i 1;have x2:=Ah.cell i 2;have x3:=Ah.cell i 3;have xl:=i.lt;simp at x0 x1 x2 x3;clear ht a1 i)
 refine bodyPost_ret (v:=.tuple #[(j.heap.size+1,0),nE nM 0]) (by simp[results,Tryz.f16,go_sem]) rfl ?_;have hb:Below j j ((j.alloc (.cells #[nC p nr I,nE nM nt,nE nM nn,nC l T t,nC o U C] 100)).alloc (.cells #[nC AT n1 cT,nC AN n2 cN,nC AR n3 cR,n4,nC p nr I,nE nM nt,nE nM nn,nC l T t,nC o U C] 104)):=(AE j _).alloc mV _;exact⟨_,rfl,⟨_,_,_,_,_,_,_,_,_,_,_,_,_,_,_,_,_,_,_,_,_,Ah.newAt mV,a3 _ (P.trans (hb.mono P.size)),HT.MC hb⟩,P.trans (hb.mono P.size)⟩
theorem YL(p:FI w):() 5 #[] w fun e w'=>∃tb,e=nP (.pointer (some ⟨tb,0,none⟩))/\GH w' tb/\Below w w w':=by
 have J:=Hd (Rb p);clear p;go_enter Tryz.func5,Tryz.ntmps5
 go_wp2_with (first
  | (go_at_call 17;refine J.mono ?_;rintro e R ⟨v,rfl,o,j⟩;have i:=Hd j;have I:=Hd (mj o);clear o j)
  | (go_at_call 16;refine I.mono ?_;rintro e T ⟨tb,rfl,t,l⟩;have P:=Hd t;have C:=Hd (i.trans (l.mono i.size));clear t l))
 go_ret;exact⟨tb,rfl,P,C⟩
