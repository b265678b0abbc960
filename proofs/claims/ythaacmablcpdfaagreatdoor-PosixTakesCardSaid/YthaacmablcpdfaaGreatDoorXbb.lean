/- The POSIX grammar. -/
import Derived.Test.YthaacmablcpdfaaGreatDoorXay
import Derived.Test.YthaacmablcpdfaaGreatDoorXba
set_option linter.all false
set_option maxRecDepth 100000
set_option maxHeartbeats 0
namespace Go.Proofs.YthaacmablcpdfaaGreatDoor
open Go.RowKit
variable{w w':World}{v:Value}{tb:Nat}
section
set_option maxRecDepth 1000000
def dU:(match Fe Hs with | .ok g=>g.T.length==pz.nt&&g.N.length==pz.nn&&g.s==pz.s&&g.R==pz.R | .error _=>false)=true:=by decide +kernel
def WH{g:PG}(h:Fe Hs=.ok g):g.T.length=pz.nt/\g.N.length=pz.nn/\g.s=pz.s/\g.R=pz.R:=by have i:=dU;rw[h]at i;simp only[Bool.and_eq_true,beq_iff_eq]at i;exact⟨i.1.1.1,i.1.1.2,i.1.2,i.2⟩
def XI(l:GN w v pz):() 24 #[v] w (S5 w pz BY AS Bm):=by refine(Vz l iW X5).mono ?_;rintro e p ⟨o,rfl,i,j⟩;rw[gQ]at i;exact⟨o,rfl,i,j⟩
def Y0(i:GN w v pz):() 6 #[v] w (P7 w pz AS Bm):=aU i aX aQ (fun y j=>XI (i.later j))
end
def EX.L3{g:Gz}{E:List (List It)}{K:List (List (Nat×Nat))}(h:EX (fun b=>b<w.heap.size) w v g E K)(i:Below w w w'):EX (fun b=>b<w'.heap.size) w' v g E K:=
 (h.AF (X:=fun b=>w.heap.size<=b) (Aj.AK i) (fun b i l=>by omega)).mono (fun b j=>AW j i.size)
def GP(w:World)(v:Value):Prop:=∃(g:PG) (R:List BC),Fe Hs=.ok g/\JX g (R.map BC.ru)/\Dc w v (Gm.Ex g (R.map BC.ru))
def GP.later(h:GP w v)(o:Below w w w'):GP w' v:=by obtain⟨g,R,i,j,l⟩:=h;exact⟨g,R,i,j,l.later o⟩
def GP.gn(h:GP w v):GN w v pz:=by obtain⟨g,R,j,l,i⟩:=h;refine⟨_,i,(gN (N6 j) l).1,?_⟩;obtain⟨o,p,i,t⟩:=WH j;unfold Gz.FB Gm.Ex;simp only[lM];have C:=l.1;rw[C,t,o,p,i];rfl
def GP.same{u:Value}(h:GP w u)(k:GP w v):() 14 #[u,v] w (Br w true):=by
 obtain⟨g,R,l,i,o⟩:=h;obtain⟨I,C,p,j,t⟩:=k;cases Except.ok.inj (l.symm.trans p)
 exact fA o t rfl rfl rfl (QO i j).1 (QO i j).2
def Zt(o:Gp w):() 7 #[] w fun e w'=>∃v,e=.returned v/\GP w' v/\Below w w w':=by refine(Qi o).mono ?_;rintro e J ⟨l,I,C,p,R,g,i,t,rfl,j⟩;exact⟨_,rfl,⟨g,R,i,Z5 j,Has.JE j (N6 i)⟩,l⟩
def GX(w:World)(tb:Nat):Prop:=∃l nT J i nN C j nR I U t nr T nt nn o na P p ng R,Ah w tb 100 #[.slice l nT J,.slice i nN C,.slice j nR I,.int .i64 U,.slice t nr T,.int .i64 nt,.int .i64 nn,.slice o na P,.slice p ng R] /\
 GP w (.agg #[.slice l nT J,.slice i nN C,.slice j nR I,.int .i64 U])/\EX (fun b=>b<w.heap.size) w (.agg #[.slice t nr T,.int .i64 nt,.int .i64 nn,.slice o na P,.slice p ng R]) pz AS Bm
def GX.later(h:GX w tb)(i:Below w w w'):GX w' tb:=by obtain⟨p,nT,R,l,nN,J,o,nR,P,gs,I,nr,cr,nt,nn,t,na,T,C,ng,U,j,h2,h3⟩:=h;exact⟨p,nT,R,l,nN,J,o,nR,P,gs,I,nr,cr,nt,nn,t,na,T,C,ng,U,j.below i j.lt,h2.later i,h3.L3 i⟩
def gD(R:GP w v):() 47 #[v] w fun e w'=>∃tb,e=.returned (.tuple #[.pointer (some ⟨tb,0,none⟩),.int .i64 0])/\GX w' tb/\Below w w w':=by
 have HO:=Hd (fun(y:World) (hy:Below w w y)=>Y0 (R.gn.later hy));have a3:=Hd (fun(y:World) (hy:Below w w y)=>R.later hy);obtain⟨AT,cT,AN,cN,AR,cR,rfl,-,-⟩:=R.gn.open_;have a0:=Hd (AH w (.cells #[.slice AT pz.nt cT,.slice AN pz.nn cN,.slice AR pz.R.length cR,pz.s] 32));have a2:=Hd (Ah.new w 32 #[.slice AT pz.nt cT,.slice AN pz.nn cN,.slice AR pz.R.length cR,pz.s]);have a4:Hid (∀J y,EX (fun b=>b<y.heap.size) y J pz AS Bm->∃p nr I nt nn l T t o U C,J=.agg #[.slice p nr I,.int .i64 nt,.int .i64 nn,.slice l T t,.slice o U C]):=Hd (fun J y h=>by obtain⟨p,I,l,t,o,C,e,-,-,-⟩:=h.open_;exact⟨_,_,_,_,_,_,_,_,_,_,_,e⟩)
 clear R;generalize pz.nt=n1 at *;generalize pz.nn=n2 at *;generalize pz.R.length=n3 at *;generalize pz.s=n4 at *;go_enter Tryz.func47,Tryz.ntmps47
 go_wp2_with (
  go_at_call 6;refine(HO _ a0).mono ?_;rintro e j ⟨J,rfl,ht,a1⟩
  obtain⟨p,nr,I,nt,nn,l,T,t,o,U,C,rfl⟩:=a4 J j ht;have HT:=Hd ht;have P:=Hd (a0.trans (a1.mono a0.size));have i:=a2.below a1 a2.lt;have x0:=Ah.cell i 0;have x1:=Ah.cell i 1;have x2:=Ah.cell i 2;have x3:=Ah.cell i 3;have xl:=i.lt;simp at x0 x1 x2 x3;clear ht a1 i)
 refine bodyPost_ret (v:=.tuple #[(j.heap.size+1,0),.int .i64 0]) (by simp[results,Tryz.f47,go_sem]) rfl ?_;have hb:Below j j ((j.alloc (.cells #[.slice p nr I,.int .i64 nt,.int .i64 nn,.slice l T t,.slice o U C] 26)).alloc (.cells #[.slice AT n1 cT,.slice AN n2 cN,.slice AR n3 cR,n4,.slice p nr I,.int .i64 nt,.int .i64 nn,.slice l T t,.slice o U C] 100)):=(AH j _).alloc (by simp) _;exact⟨_,rfl,⟨_,_,_,_,_,_,_,_,_,_,_,_,_,_,_,_,_,_,_,_,_,Ah.newAt (by simp),a3 _ (P.trans (hb.mono P.size)),HT.L3 hb⟩,P.trans (hb.mono P.size)⟩
theorem Vy(p:Gp w):() 13 #[] w fun e w'=>∃tb,e=.returned (.pointer (some ⟨tb,0,none⟩))/\GX w' tb/\Below w w w':=by
 have J:=Hd (Zt p);clear p;go_enter Tryz.func13,Tryz.ntmps13
 go_wp2_with (first
  | (go_at_call 7;refine J.mono ?_;rintro e R ⟨v,rfl,o,j⟩;have i:=Hd j;have I:=Hd (gD o);clear o j)
  | (go_at_call 47;refine I.mono ?_;rintro e T ⟨tb,rfl,t,l⟩;have P:=Hd t;have C:=Hd (i.trans (l.mono i.size));clear t l))
 go_ret;exact⟨tb,rfl,P,C⟩
def GX.JE(h:GX w tb):∃v,GP w v/\∀y,Below w w y->() 15 #[(tb,0)] y fun e w'=>e=.returned v/\Below y y w':=by
 obtain⟨C,nT,P,p,T,I,t,U,J,R,Ar,nr,cr,nt,nn,Aa,na,ca,Ag,ng,cg,j,l,-⟩:=h;refine⟨_,l,fun y o=>?_⟩;have i:=j.below o j.lt;have x0:=Ah.cell i 0;have x1:=Ah.cell i 1;have x2:=Ah.cell i 2;have x3:=Ah.cell i 3;have xl:=i.lt;simp at x0 x1 x2 x3;clear j l i o;go_enter Tryz.func15,Tryz.ntmps15
 go_wp2;refine bodyPost_ret (v:=.agg #[.slice C nT P,.slice p T I,.slice t U J,R]) (by simp[results,Tryz.f15,go_sem]) rfl ?_;exact⟨rfl,AH _ _⟩
end Go.Proofs.YthaacmablcpdfaaGreatDoor
