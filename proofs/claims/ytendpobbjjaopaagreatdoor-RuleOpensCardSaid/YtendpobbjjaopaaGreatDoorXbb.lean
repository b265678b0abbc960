/- . -/
import Derived.Test.YtendpobbjjaopaaGreatDoorXay
import Derived.Test.YtendpobbjjaopaaGreatDoorXba
set_option linter.all false
set_option maxRecDepth 100000
set_option maxHeartbeats 16000000
namespace Go.Proofs.YtendpobbjjaopaaGreatDoor
open Go.RowKit
open Value renaming slice→oG,int→oH
open IntKind renaming i64→oO
open Ending renaming returned→oQ
open Go renaming World→oU
variable{w w':oU}{v:Value}
section
set_option maxRecDepth 1000000
def mV:(match Fc G4 with | .ok g=>g.T.length==pz.nt&&g.N.length==pz.nn&&g.s==pz.s&&g.R==pz.R | .error _=>false)=true:=by decide +kernel
def cD{g:PG}(h:Fc G4=.ok g):g.T.length=pz.nt/\g.N.length=pz.nn/\g.s=pz.s/\g.R=pz.R:=by have i:=mV;rw[h]at i;simp only[Bool.and_eq_true,beq_iff_eq]at i;exact⟨i.1.1.1,i.1.1.2,i.1.2,i.2⟩
def Z0(l:GN w v pz):() 57 #[v] w (RZ w pz BT AS Bv):=by refine(aM l Z6 Zh).mono ?_;rintro e p ⟨o,rfl,i,j⟩;rw[eI]at i;exact⟨o,rfl,i,j⟩
def aP(i:GN w v pz):() 37 #[v] w (Rb w pz AS Bv):=Xg i Zi gO (fun y j=>Z0 (i.later j))
end
def EV.Ng{g:Gz}{E:List (List It)}{K:List (List (Nat×Nat))}(h:EV (fun b=>b<w.heap.size) w v g E K)(i:Below w w w'):EV (fun b=>b<w'.heap.size) w' v g E K:=
 (h.AA (X:=fun b=>w.heap.size<=b) (Am.AJ i) (fun b i l=>by omega)).mono (fun b j=>A0 j i.size)
def GP(w:oU)(v:Value):Prop:=∃(g:PG) (R:List BJ),Fc G4=.ok g/\My g (R.map BJ.ru)/\Ev w v (Gm.GC g (R.map BJ.ru))
def GP.later(h:GP w v)(o:Below w w w'):GP w' v:=by obtain⟨g,R,i,j,l⟩:=h;exact⟨g,R,i,j,l.later o⟩
def GP.gn(h:GP w v):GN w v pz:=by obtain⟨g,R,j,l,i⟩:=h;refine⟨_,i,(YL (TX j) l).1,?_⟩;obtain⟨o,p,i,t⟩:=cD j;unfold Gz.Fv Gm.GC;simp only[lM];have C:=l.1;rw[C,t,o,p,i];rfl
def YT(o:G2 w):() 14 #[] w fun e w'=>∃v,e=oQ v/\GP w' v/\Below w w w':=by refine(gR o).mono ?_;rintro e J ⟨l,I,C,p,R,g,i,t,rfl,j⟩;exact⟨_,rfl,⟨g,R,i,ZJ j,Has.M8 j (TX i)⟩,l⟩
def Gu(w:oU)(tb:Nat):Prop:=∃l nT J i nN C j nR I U t nr T nt nn o na P p ng R,Ah w tb 83 #[oG l nT J,oG i nN C,oG j nR I,oH oO U,oG t nr T,oH oO nt,oH oO nn,oG o na P,oG p ng R] /\
 GP w (.agg #[oG l nT J,oG i nN C,oG j nR I,oH oO U])/\EV (fun b=>b<w.heap.size) w (.agg #[oG t nr T,oH oO nt,oH oO nn,oG o na P,oG p ng R]) pz AS Bv
def Gu.later{tb:Nat}(h:Gu w tb)(i:Below w w w'):Gu w' tb:=by obtain⟨p,nT,R,l,nN,J,o,nR,P,gs,I,nr,cr,nt,nn,t,na,T,C,ng,U,j,h2,h3⟩:=h;exact⟨p,nT,R,l,nN,J,o,nR,P,gs,I,nr,cr,nt,nn,t,na,T,C,ng,U,j.below i j.lt,h2.later i,h3.Ng i⟩
def bU(R:GP w v):() 13 #[v] w fun e w'=>∃tb,e=oQ (.tuple #[.pointer (some ⟨tb,0,none⟩),oH oO 0])/\Gu w' tb/\Below w w w':=by
 have HO:=Hd (fun(y:oU) (hy:Below w w y)=>aP (R.gn.later hy));have a3:=Hd (fun(y:oU) (hy:Below w w y)=>R.later hy);obtain⟨AT,cT,AN,cN,AR,cR,rfl,-,-⟩:=R.gn.open_;have a0:=Hd (AG w (.cells #[oG AT pz.nt cT,oG AN pz.nn cN,oG AR pz.R.length cR,pz.s] 47));have a2:=Hd (Ah.new w 47 #[oG AT pz.nt cT,oG AN pz.nn cN,oG AR pz.R.length cR,pz.s]);have a4:Hid (∀J y,EV (fun b=>b<y.heap.size) y J pz AS Bv->∃p nr I nt nn l T t o U C,J=.agg #[oG p nr I,oH oO nt,oH oO nn,oG l T t,oG o U C]):=Hd (fun J y h=>by obtain⟨p,I,l,t,o,C,e,-,-,-⟩:=h.open_;exact⟨_,_,_,_,_,_,_,_,_,_,_,e⟩)
 clear R;generalize pz.nt=n1 at *;generalize pz.nn=n2 at *;generalize pz.R.length=n3 at *;generalize pz.s=n4 at *;go_enter Tryz.func13,Tryz.ntmps13
 go_wp2_with (
  go_at_call 37;refine(HO _ a0).mono ?_;rintro e j ⟨J,rfl,ht,a1⟩
  obtain⟨p,nr,I,nt,nn,l,T,t,o,U,C,rfl⟩:=a4 J j ht;have HT:=Hd ht;have P:=Hd (a0.trans (a1.mono a0.size));have i:=a2.below a1 a2.lt;have x0:=Ah.cell i 0;have x1:=Ah.cell i 1;have x2:=Ah.cell i 2;have x3:=Ah.cell i 3;have xl:=i.lt;simp at x0 x1 x2 x3;clear ht a1 i)
 refine bodyPost_ret (v:=.tuple #[(j.heap.size+1,0),oH oO 0]) (by simp[results,Tryz.f13,go_sem]) rfl ?_;have hb:Below j j ((j.alloc (.cells #[oG p nr I,oH oO nt,oH oO nn,oG l T t,oG o U C] 79)).alloc (.cells #[oG AT n1 cT,oG AN n2 cN,oG AR n3 cR,n4,oG p nr I,oH oO nt,oH oO nn,oG l T t,oG o U C] 83)):=(AG j _).alloc oA _;exact⟨_,rfl,⟨_,_,_,_,_,_,_,_,_,_,_,_,_,_,_,_,_,_,_,_,_,Ah.newAt oA,a3 _ (P.trans (hb.mono P.size)),HT.Ng hb⟩,P.trans (hb.mono P.size)⟩
theorem eF(p:G2 w):() 4 #[] w fun e w'=>∃tb,e=oQ (.pointer (some ⟨tb,0,none⟩))/\Gu w' tb/\Below w w w':=by
 have J:=Hd (YT p);clear p;go_enter Tryz.func4,Tryz.ntmps4
 go_wp2_with (first
  | (go_at_call 14;refine J.mono ?_;rintro e R ⟨v,rfl,o,j⟩;have i:=Hd j;have I:=Hd (bU o);clear o j)
  | (go_at_call 13;refine I.mono ?_;rintro e T ⟨tb,rfl,t,l⟩;have P:=Hd t;have C:=Hd (i.trans (l.mono i.size));clear t l))
 go_ret;exact⟨tb,rfl,P,C⟩
