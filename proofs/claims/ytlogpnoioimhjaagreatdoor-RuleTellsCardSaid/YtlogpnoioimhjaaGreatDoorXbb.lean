/- The POSIX grammar as the program has it. -/
import Derived.Test.YtlogpnoioimhjaaGreatDoorXay
import Derived.Test.YtlogpnoioimhjaaGreatDoorXba
set_option linter.all false
set_option maxRecDepth 100000
set_option maxHeartbeats 16000000
namespace Go.Proofs.YtlogpnoioimhjaaGreatDoor
open Go.RowKit
variable{w w':World}{v:Value}
section
set_option maxRecDepth 1000000
def VE:(match Fk Hj with | .ok g=>g.T.length==pz.nt&&g.N.length==pz.nn&&g.s==pz.s&&g.R==pz.R | .error _=>false)=true:=by decide +kernel
def YQ{g:PG}(h:Fk Hj=.ok g):g.T.length=pz.nt/\g.N.length=pz.nn/\g.s=pz.s/\g.R=pz.R:=by have i:=VE;rw[h]at i;simp only[Bool.and_eq_true,beq_iff_eq]at i;exact⟨i.1.1.1,i.1.1.2,i.1.2,i.2⟩
def Y0(l:GN w v pz):() 57 #[v] w (Up w pz BT AQ Bs):=by refine(Yo l Ya YA).mono ?_;rintro e p ⟨o,rfl,i,j⟩;rw[bJ]at i;exact⟨o,rfl,i,j⟩
def aU(i:GN w v pz):() 39 #[v] w (RH w pz AQ Bs):=cJ i Zf ZS (fun y j=>Y0 (i.later j))
end
def E0.MJ{g:Gz}{E:List (List It)}{K:List (List (Nat×Nat))}(h:E0 (fun b=>b<w.heap.size) w v g E K)(i:Below w w w'):E0 (fun b=>b<w'.heap.size) w' v g E K:=
 (h.AE (X:=fun b=>w.heap.size<=b) (Aj.AJ i) (fun b i l=>by omega)).mono (fun b j=>Ba j i.size)
def GP(w:World)(v:Value):Prop:=∃(g:PG) (R:List BC),Fk Hj=.ok g/\My g (R.map BC.ru)/\Et w v (Gm.GF g (R.map BC.ru))
def GP.later(h:GP w v)(o:Below w w w'):GP w' v:=by obtain⟨g,R,i,j,l⟩:=h;exact⟨g,R,i,j,l.later o⟩
def GP.gn(h:GP w v):GN w v pz:=by obtain⟨g,R,j,l,i⟩:=h;refine⟨_,i,(gC (Sb j) l).1,?_⟩;obtain⟨o,p,i,t⟩:=YQ j;unfold Gz.FE Gm.GF;simp only[lM];have C:=l.1;rw[C,t,o,p,i];rfl
def aK(o:Gy w):() 21 #[] w fun e w'=>∃v,e=.returned v/\GP w' v/\Below w w w':=by refine(YR o).mono ?_;rintro e J ⟨l,I,C,p,R,g,i,t,rfl,j⟩;exact⟨_,rfl,⟨g,R,i,Wb j,Has.Lp j (Sb i)⟩,l⟩
def Fx(w:World)(tb:Nat):Prop:=∃l nT J i nN C j nR I U t nr T nt nn o na P p ng R,Ah w tb 84 #[.slice l nT J,.slice i nN C,.slice j nR I,.int .i64 U,.slice t nr T,.int .i64 nt,.int .i64 nn,.slice o na P,.slice p ng R] /\
 GP w (.agg #[.slice l nT J,.slice i nN C,.slice j nR I,.int .i64 U])/\E0 (fun b=>b<w.heap.size) w (.agg #[.slice t nr T,.int .i64 nt,.int .i64 nn,.slice o na P,.slice p ng R]) pz AQ Bs
def Fx.later{tb:Nat}(h:Fx w tb)(i:Below w w w'):Fx w' tb:=by obtain⟨p,nT,R,l,nN,J,o,nR,P,gs,I,nr,cr,nt,nn,t,na,T,C,ng,U,j,h2,h3⟩:=h;exact⟨p,nT,R,l,nN,J,o,nR,P,gs,I,nr,cr,nt,nn,t,na,T,C,ng,U,j.below i j.lt,h2.later i,h3.MJ i⟩
def Wv(R:GP w v):() 20 #[v] w fun e w'=>∃tb,e=.returned (.tuple #[.pointer (some ⟨tb,0,none⟩),.int .i64 0])/\Fx w' tb/\Below w w w':=by
 have HO:=Hd (fun(y:World) (hy:Below w w y)=>aU (R.gn.later hy));have a3:=Hd (fun(y:World) (hy:Below w w y)=>R.later hy);obtain⟨AT,cT,AN,cN,AR,cR,rfl,-,-⟩:=R.gn.open_;have a0:=Hd (AG w (.cells #[.slice AT pz.nt cT,.slice AN pz.nn cN,.slice AR pz.R.length cR,pz.s] 58));have a2:=Hd (Ah.new w 58 #[.slice AT pz.nt cT,.slice AN pz.nn cN,.slice AR pz.R.length cR,pz.s]);have a4:Hid (∀J y,E0 (fun b=>b<y.heap.size) y J pz AQ Bs->∃p nr I nt nn l T t o U C,J=.agg #[.slice p nr I,.int .i64 nt,.int .i64 nn,.slice l T t,.slice o U C]):=Hd (fun J y h=>by obtain⟨p,I,l,t,o,C,e,-,-,-⟩:=h.open_;exact⟨_,_,_,_,_,_,_,_,_,_,_,e⟩)
 clear R;generalize pz.nt=n1 at *;generalize pz.nn=n2 at *;generalize pz.R.length=n3 at *;generalize pz.s=n4 at *;go_enter Tryz.func20,Tryz.ntmps20
 go_wp2_with (
  go_at_call 39;refine(HO _ a0).mono ?_;rintro e j ⟨J,rfl,ht,a1⟩
  obtain⟨p,nr,I,nt,nn,l,T,t,o,U,C,rfl⟩:=a4 J j ht;have HT:=Hd ht;have P:=Hd (a0.trans (a1.mono a0.size));have i:=a2.below a1 a2.lt;have x0:=Ah.cell i 0;have x1:=Ah.cell i 1;have x2:=Ah.cell i 2;have x3:=Ah.cell i 3;have xl:=i.lt;simp at x0 x1 x2 x3;clear ht a1 i)
 refine bodyPost_ret (v:=.tuple #[(j.heap.size+1,0),.int .i64 0]) (by simp[results,Tryz.f20,go_sem]) rfl ?_;have hb:Below j j ((j.alloc (.cells #[.slice p nr I,.int .i64 nt,.int .i64 nn,.slice l T t,.slice o U C] 80)).alloc (.cells #[.slice AT n1 cT,.slice AN n2 cN,.slice AR n3 cR,n4,.slice p nr I,.int .i64 nt,.int .i64 nn,.slice l T t,.slice o U C] 84)):=(AG j _).alloc (by simp) _;exact⟨_,rfl,⟨_,_,_,_,_,_,_,_,_,_,_,_,_,_,_,_,_,_,_,_,_,Ah.newAt (by simp),a3 _ (P.trans (hb.mono P.size)),HT.MJ hb⟩,P.trans (hb.mono P.size)⟩
theorem UL(p:Gy w):() 5 #[] w fun e w'=>∃tb,e=.returned (.pointer (some ⟨tb,0,none⟩))/\Fx w' tb/\Below w w w':=by
 have J:=Hd (aK p);clear p;go_enter Tryz.func5,Tryz.ntmps5
 go_wp2_with (first
  | (go_at_call 21;refine J.mono ?_;rintro e R ⟨v,rfl,o,j⟩;have i:=Hd j;have I:=Hd (Wv o);clear o j)
  | (go_at_call 20;refine I.mono ?_;rintro e T ⟨tb,rfl,t,l⟩;have P:=Hd t;have C:=Hd (i.trans (l.mono i.size));clear t l))
 go_ret;exact⟨tb,rfl,P,C⟩
end Go.Proofs.YtlogpnoioimhjaaGreatDoor
