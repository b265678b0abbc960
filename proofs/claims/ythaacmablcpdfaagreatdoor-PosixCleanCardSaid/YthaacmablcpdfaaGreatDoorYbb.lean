/- The POSIX grammar as the program has it. PosixRight. The POSIX grammar's tables. -/
import Derived.Test.YthaacmablcpdfaaGreatDoorYay
import Derived.Test.YthaacmablcpdfaaGreatDoorYba
import Derived.Test.YthaacmablcpdfaaGreatDoorYao
import Derived.Test.YthaacmablcpdfaaGreatDoorYn
set_option linter.unusedVariables false
set_option maxRecDepth 100000
set_option maxHeartbeats 16000000
namespace Go.Proofs.YthaacmablcpdfaaGreatDoor
open Go.RowKit
section
set_option maxRecDepth 1000000
theorem Xt:(match E9 G9 with | .ok g=>g.T.length==pz.nt&&g.N.length==pz.nn&&g.s==pz.s&&g.R==pz.R | .error _=>false)=true:=by decide +kernel
theorem Yd{g:PG}(h:E9 G9=.ok g):g.T.length=pz.nt/\g.N.length=pz.nn/\g.s=pz.s/\g.R=pz.R:=by have i:=Xt;rw[h]at i;simp only[Bool.and_eq_true,beq_iff_eq]at i;exact⟨i.1.1.1,i.1.1.2,i.1.2,i.2⟩
theorem Pu{w:World}{v:Value}(l:GN w v pz):Calls Tryz.prog 24 #[v] w (Q4 w pz BK Ce G7):=by refine(dW l aA aR).mono ?_;rintro e p ⟨o,rfl,i,j⟩;rw[Wa]at i;exact⟨o,rfl,i,j⟩
theorem VV{w:World}{v:Value}(i:GN w v pz):Calls Tryz.prog 6 #[v] w (Pn w pz Ce G7):=fF i NU Qf (fun y j=>Pu (i.later j))
end
theorem Fl.cX{w w':World}{v:Value}{g:Gz}{E:List (List It)}{K:List (List (Nat×Nat))}(h:Fl (fun b=>b<w.heap.size) w v g E K)(i:Below w.heap.size w w'):Fl (fun b=>b<w'.heap.size) w' v g E K:=
 (h.Aw (X:=fun b=>w.heap.size<=b) (Aj.AH i) (fun b i l=>by omega)).mono (fun b j=>A0 j i.size)
def GP(w:World)(v:Value):Prop:=∃(g:PG) (R:List Bt),E9 G9=.ok g/\JS g (R.map Bt.ru)/\Ci w v (Gm.Ee g (R.map Bt.ru))
theorem GP.later{w w':World}{v:Value}(h:GP w v)(o:Below w.heap.size w w'):GP w' v:=by obtain⟨g,R,i,j,l⟩:=h;exact⟨g,R,i,j,l.later o⟩
theorem GP.gn{w:World}{v:Value}(h:GP w v):GN w v pz:=by obtain⟨g,R,j,l,i⟩:=h;refine⟨_,i,(ZB (NX j) l).1,?_⟩;obtain⟨o,p,i,t⟩:=Yd j;unfold Gz.EP Gm.Ee;simp only[lM];have C:=l.1;rw[C,t,o,p,i];rfl
theorem GP.same{w:World}{u v:Value}(h:GP w u)(k:GP w v):Calls Tryz.prog 14 #[u,v] w (Bb w true):=by
 obtain⟨g,R,l,i,o⟩:=h;obtain⟨I,C,p,j,t⟩:=k;cases Except.ok.inj (l.symm.trans p)
 exact gF o t rfl rfl rfl (St i j).1 (St i j).2
theorem OU{w:World}(o:Gk w):Calls Tryz.prog 7 #[] w fun e w'=>∃v,e=.returned v/\GP w' v/\Below w.heap.size w w':=by refine(Qs o).mono ?_;rintro e J ⟨l,I,C,p,R,g,i,t,rfl,j⟩;exact⟨_,rfl,⟨g,R,i,VR j,Has.Jq j (NX i)⟩,l⟩
def Mm(w:World)(tb:Nat):Prop:=∃l nT J i nN C j nR I U t nr T nt nn o na P p ng R,Ah w tb 100 #[.slice l nT J,.slice i nN C,.slice j nR I,.int .i64 U,.slice t nr T,.int .i64 nt,.int .i64 nn,.slice o na P,.slice p ng R] /\
 GP w (.agg #[.slice l nT J,.slice i nN C,.slice j nR I,.int .i64 U])/\Fl (fun b=>b<w.heap.size) w (.agg #[.slice t nr T,.int .i64 nt,.int .i64 nn,.slice o na P,.slice p ng R]) pz Ce G7
theorem fH{w:World}{v:Value}(R:GP w v):Calls Tryz.prog 47 #[v] w fun e w'=>∃tb,e=.returned (.tuple #[.pointer (some ⟨tb,0,none⟩),.int .i64 0])/\Mm w' tb/\Below w.heap.size w w':=by
 have HO:=Hd (fun(y:World) (hy:Below w.heap.size w y)=>VV (R.gn.later hy));have a3:=Hd (fun(y:World) (hy:Below w.heap.size w y)=>R.later hy);obtain⟨AT,cT,AN,cN,AR,cR,rfl,-,-⟩:=R.gn.open_;have a0:=Hd (Ay w (.cells #[.slice AT pz.nt cT,.slice AN pz.nn cN,.slice AR pz.R.length cR,.int .i64 pz.s] 32));have a2:=Hd (Ah.new w 32 #[.slice AT pz.nt cT,.slice AN pz.nn cN,.slice AR pz.R.length cR,.int .i64 pz.s]);have a4:Hid (∀J y,Fl (fun b=>b<y.heap.size) y J pz Ce G7->∃p nr I nt nn l T t o U C,J=.agg #[.slice p nr I,.int .i64 nt,.int .i64 nn,.slice l T t,.slice o U C]):=Hd (fun J y h=>by obtain⟨p,I,l,t,o,C,e,-,-,-⟩:=h.open_;exact⟨_,_,_,_,_,_,_,_,_,_,_,e⟩)
 clear R;generalize pz.nt=n1 at *;generalize pz.nn=n2 at *;generalize pz.R.length=n3 at *;generalize pz.s=n4 at *;go_enter Tryz.func47,Tryz.ntmps47
 go_wp2_with (
  go_at_call 6;refine(HO.out _ a0.out).mono ?_;rintro e j ⟨J,rfl,ht,a1⟩
  obtain⟨p,nr,I,nt,nn,l,T,t,o,U,C,rfl⟩:=a4.out J j ht;have HT:=Hd ht;have P:=Hd (a0.out.trans (a1.mono a0.out.size));have i:=a2.out.below a1 a2.out.lt;have x0:=Ah.cell i 0;have x1:=Ah.cell i 1;have x2:=Ah.cell i 2;have x3:=Ah.cell i 3;have xl:=i.lt;simp at x0 x1 x2 x3;clear ht a1 i)
 refine bodyPost_ret (v:=.tuple #[.pointer (some ⟨j.heap.size+1,0,none⟩),.int .i64 0]) (by simp[results,Tryz.f47,go_sem]) rfl ?_;have hb:Below j.heap.size j ((j.alloc (.cells #[.slice p nr I,.int .i64 nt,.int .i64 nn,.slice l T t,.slice o U C] 26)).alloc (.cells #[.slice AT n1 cT,.slice AN n2 cN,.slice AR n3 cR,.int .i64 n4,.slice p nr I,.int .i64 nt,.int .i64 nn,.slice l T t,.slice o U C] 100)):=(Ay j _).alloc (by simp) _;exact⟨_,rfl,⟨_,_,_,_,_,_,_,_,_,_,_,_,_,_,_,_,_,_,_,_,_,Ah.newAt (by simp),a3.out _ (P.out.trans (hb.mono P.out.size)),HT.out.cX hb⟩,P.out.trans (hb.mono P.out.size)⟩
theorem dV{w:World}(p:Gk w):Calls Tryz.prog 13 #[] w fun e w'=>∃tb,e=.returned (.pointer (some ⟨tb,0,none⟩))/\Mm w' tb/\Below w.heap.size w w':=by
 have J:=Hd (OU p);clear p;go_enter Tryz.func13,Tryz.ntmps13
 go_wp2_with (first
  | (go_at_call 7;refine J.out.mono ?_;rintro e R ⟨v,rfl,o,j⟩;have i:=Hd j;have I:=Hd (fH o);clear o j)
  | (go_at_call 47;refine I.out.mono ?_;rintro e T ⟨tb,rfl,t,l⟩;have P:=Hd t;have C:=Hd (i.out.trans (l.mono i.out.size));clear t l))
 go_ret;exact⟨tb,rfl,P.out,C.out⟩
theorem Mm.Jq{w:World}{tb:Nat}(h:Mm w tb):∃v,GP w v/\∀y,Below w.heap.size w y->Calls Tryz.prog 15 #[.pointer (some ⟨tb,0,none⟩)] y fun e w'=>e=.returned v/\Below y.heap.size y w':=by
 obtain⟨C,nT,P,p,T,I,t,U,J,R,Ar,nr,cr,nt,nn,Aa,na,ca,Ag,ng,cg,j,l,-⟩:=h;refine⟨_,l,fun y o=>?_⟩;have i:=j.below o j.lt;have x0:=Ah.cell i 0;have x1:=Ah.cell i 1;have x2:=Ah.cell i 2;have x3:=Ah.cell i 3;have xl:=i.lt;simp at x0 x1 x2 x3;clear j l i o;go_enter Tryz.func15,Tryz.ntmps15
 go_wp2;refine bodyPost_ret (v:=.agg #[.slice C nT P,.slice p T I,.slice t U J,.int .i64 R]) (by simp[results,Tryz.f15,go_sem]) rfl ?_;exact⟨rfl,Ay _ _⟩
end Go.Proofs.YthaacmablcpdfaaGreatDoor
