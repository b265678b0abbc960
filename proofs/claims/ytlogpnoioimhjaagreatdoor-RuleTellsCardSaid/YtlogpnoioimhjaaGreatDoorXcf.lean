/- What can come. -/
import Derived.Test.YtlogpnoioimhjaaGreatDoorXbh
import Derived.Test.YtlogpnoioimhjaaGreatDoorXce
import Derived.Deep.Slices
import Derived.Deep.Fields
import Derived.Test.YtlogpnoioimhjaaGreatDoorXbe
import Derived.Test.YtlogpnoioimhjaaGreatDoorTie
import Derived.Test.YtlogpnoioimhjaaGreatDoorCards
import Derived.ChangeMaps5
import Derived.HandedShaped
import Derived.LaidLaws
import Derived.LaidHandle
import Derived.Stop.Joined
import Derived.SevenTiedAt
import Derived.Handy
set_option linter.all false
set_option maxRecDepth 100000
set_option maxHeartbeats 16000000
namespace Go.Proofs.YtlogpnoioimhjaaGreatDoor
open Go.RowKit Go.Proofs.Tryz
variable{w:World}{steps tb:Nat}{T:List (Nd×Value)}{v:Value}{H:Type}
def EV(c:Ca)(t:Int):Bool:=decide (0<=t/\t<=38/\((Fh pz AQ Bs t.toNat 1000 c.st).getD (0,0)).1≠0)
def dN(c:Ca)(t:Int)(h:t<0\/39<=t):EV c t=false:=decide_eq_false (by omega)
def Tf{P:World}{i rb:Nat}{c:Ca}{J nv:Value}(h:Cw P w i tb rb c.st c.ns T false steps J nv)(h0:0<c.st.length)(j:∀s∈c.st,s<AQ.length)(C:∀t,t<=38->∃a,Fh pz AQ Bs t 1000 c.st=some a) :
  EZ w (.pointer (some ⟨i,0,none⟩)) (EV c):=fun t y l=>ZJ (by
 have U:pz.nt=38:=rfl;unfold EV;by_cases I:0<=t/\t<=38
 ·obtain⟨a,ha⟩:=C t.toNat (by omega)
  rw[ha];exact Pv (h.later l) h0 t (fun _ _=>ha) j
 ·have p:=Pv (f:=0) (a:=(0,0)) (h.later l) h0 t (fun o R=>absurd ⟨o,by omega⟩ I) j
  rwa [decide_eq_false (by omega),<-show decide (0<=t/\t<=38/\((Fh pz AQ Bs t.toNat 1000 c.st).getD (0,0)).1≠0)=false from decide_eq_false (by omega)]at p)
def Mm(w:World):EZ w (.pointer none) (fun _=>false):=fun t y _=>by
 have l:Hid (Calls Tryz.prog 43 #[.pointer none,.int .i64 t] y fun e o=>e=.returned (.bool false)/\Below y.heap.size y o):=Hd (by
  go_enter func43,ntmps43
  go_wp2_with fail
  go_ret;exact⟨rfl,Below.refl _ _⟩)
 go_enter func24,ntmps24
 go_wp2_with (go_at_call 43;refine l.out.mono ?_;rintro e p ⟨rfl,i⟩;have j:=Hd i;clear i)
 go_ret;exact⟨rfl,j.out⟩
section
set_option maxRecDepth 1000000
def G3:Ca:=⟨[0],[],[]⟩
def bW:((List.range 39).all fun t=>(Fh pz AQ Bs t 1000 [0]).isSome)=true:=by decide +kernel
def Xz:Fu (EV G3)=1/\G1 (EV G3) 1 1 ⟨#[102]⟩=3/\K0 (EV G3) ⟨#[60]⟩=true/\K0 (EV G3) ⟨#[38]⟩=false:=by decide +kernel
def la{o:World}{i rb:Nat}{l nv:Value}(h:Cw o w i tb rb [0] [] T false steps l nv):EZ w (.pointer (some ⟨i,0,none⟩)) (EV G3):=
 Tf (c:=G3) h (Nat.succ_pos _) (fun s j=>by rw[mS.1 j];exact(by decide +kernel:0<AQ.length)) fun t p=>Option.isSome_iff_exists.1 (List.all_eq_true.1 bW t (List.mem_range.2 (by omega)))
def Po(h:Fx w tb):tb<w.heap.size:=by obtain⟨_,_,_,_,_,_,_,_,_,_,_,_,_,_,_,_,_,_,_,_,_,h,-⟩:=h;exact h.lt
def kS{g:Nat}{s:ByteArray}(h:Ah w g 62 #[.int .i64 1,.string s,.string ⟨#[]⟩,.slice none 0 0,.slice none 0 0])(o:s.size<=9223372036854775807):EX w (some ⟨g,0,none⟩) 1 1 1 s:=
 ⟨by omega,⟨AF _,by unfold maxLen;omega⟩,o,fun m p=>by
  obtain rfl:m=0:=by omega
  exact⟨g,0,⟨g,0,none⟩,[],rfl,h.lt,h.cell 0,h.cell 1,rfl,fun u i=>(by cases i),fun y t=>⟨fun u i=>(by cases i),.inr ⟨_,_,rfl,rfl,fun j u l=>by cases l⟩⟩⟩⟩
def Rm(hT:Ei w)(h:Fx w tb):Calls Tryz.prog 6 #[.pointer (some ⟨tb,0,none⟩)] w (fun e w'=>e=.returned (.bool true)/\Below w.heap.size w w'):=by
 have a2:=Hd (Pu h (Po h));have HT:=Hd fun y (l:Below w.heap.size w y)=>hT.later l
 obtain⟨v1,v2,v3,v4⟩:=Xz;have T:=Hd v1;have U:=Hd v2;have a6:=Hd v3;have a7:=Hd v4;clear hT h v1 v2 v3 v4;go_enter func6,ntmps6
 have a8:Ka (IC (EV G3) 1 1 1 ⟨#[102]⟩ false) ⟨#[102]⟩=.tuple #[.string ⟨#[102]⟩,.bool true]:=by unfold IC;rw[T.out,U.out];rfl
 have a0:=Hd a8;clear a8;go_upto_region 3 with(go_at_call 11;refine a2.out.mono ?_;rintro e i ⟨eb,rb,sv,rfl,he,p⟩;have HE:=Hd he;have I:=Hd p;clear he p a2)
 have h0:Below i.heap.size i ((i.alloc (.cells #[.int .i64 1,.string ⟨#[102]⟩,.string ⟨#[]⟩,.slice none 0 0,.slice none 0 0] 62)).alloc (.cells #[.int .i64 1,.int .i64 0,.slice (some ⟨i.heap.size,0,none⟩) 1 1,.string ⟨#[]⟩] 26)):=(AG i _).alloc (by simp) _;have hx:Ah ((i.alloc (.cells #[.int .i64 1,.string ⟨#[102]⟩,.string ⟨#[]⟩,.slice none 0 0,.slice none 0 0] 62)).alloc (.cells #[.int .i64 1,.int .i64 0,.slice (some ⟨i.heap.size,0,none⟩) 1 1,.string ⟨#[]⟩] 26)) i.heap.size 62 #[.int .i64 1,.string ⟨#[102]⟩,.string ⟨#[]⟩,.slice none 0 0,.slice none 0 0]:=(Ah.new i 62 _).alloc _
 have J:Ah ((i.alloc (.cells #[.int .i64 1,.string ⟨#[102]⟩,.string ⟨#[]⟩,.slice none 0 0,.slice none 0 0] 62)).alloc (.cells #[.int .i64 1,.int .i64 0,.slice (some ⟨i.heap.size,0,none⟩) 1 1,.string ⟨#[]⟩] 26)) (i.heap.size+1) 26 #[.int .i64 1,.int .i64 0,.slice (some ⟨i.heap.size,0,none⟩) 1 1,.string ⟨#[]⟩]:=Ah.newAt (by simp);generalize (i.alloc (.cells #[.int .i64 1,.string ⟨#[102]⟩,.string ⟨#[]⟩,.slice none 0 0,.slice none 0 0] 62)).alloc (.cells #[.int .i64 1,.int .i64 0,.slice (some ⟨i.heap.size,0,none⟩) 1 1,.string ⟨#[]⟩] 26)=o at h0 hx J ⊢;have C:EZ o (.pointer (some ⟨eb,0,none⟩)) (EV G3):=(la HE.out).later h0
 have hw:=kS hx (by decide);have t:=HT.out o (I.out.trans (h0.mono I.out.size));have P:=Hd fun y (l:Below o.heap.size o y)=>Pm (t.later l) (C.later l) (hw.later l) 1 0 ⟨#[]⟩ false
 have a5:=Hd fun y (l:Below o.heap.size o y)=>LH (t.later l) (C.later l)
 have R:=Hd fun y (l:Below o.heap.size o y)=>OX (t.later l) (C.later l) (hw.later l) 1 0 ⟨#[]⟩
 have a3:=Hd fun y (l:Below o.heap.size o y)=>Oh (t.later l) (C.later l) ⟨#[60]⟩
 have a4:=Hd fun y (l:Below o.heap.size o y)=>Oh (t.later l) (C.later l) ⟨#[38]⟩
 rw[T.out]at a5;rw[a0.out]at P;rw[show Ir (EV G3) 1 0 1 1 ⟨#[102]⟩=G1 (EV G3) 1 1 ⟨#[102]⟩ from rfl,U.out]at R;rw[a6.out]at a3;rw[a7.out]at a4;unfold EM at P R;have HX:Hid (∀y,Below o.heap.size o y->y.cell? ⟨i.heap.size+1,0,none⟩=some (.int .i64 1)/\y.cell? ⟨i.heap.size+1,1,none⟩=some (.int .i64 0)/\y.cell? ⟨i.heap.size+1,2,none⟩=some (.slice (some ⟨i.heap.size,0,none⟩) 1 1)/\y.cell? ⟨i.heap.size+1,3,none⟩=some (.string ⟨#[]⟩)/\i.heap.size+1<y.heap.size):=Hd fun y l=>by have h:=J.below l J.lt;exact⟨h.cell 0,h.cell 1,h.cell 2,h.cell 3,h.lt⟩
 have a1:=Hd (I.out.trans (h0.mono I.out.size));have j:=Hd (Below.refl o.heap.size o);obtain⟨d0,d1,d2,d3,dl⟩:=HX.out _ j.out;clear h0 hx J C hw t HE HT a0 T U a6 a7;generalize i.heap.size+1=aa at *;generalize i.heap.size=a9 at *;go_wp2_with (first
  | (go_at_call 8;refine(P.out _ j.out).mono ?_;rintro e w4 ⟨rfl,p⟩;replace j:=Hd (j.out.trans (p.mono j.out.size));obtain⟨d0,d1,d2,d3,dl⟩:=HX.out _ j.out;clear p)
  | (go_at_call 9;refine(a5.out _ j.out).mono ?_;rintro e w4 ⟨rfl,p⟩;replace j:=Hd (j.out.trans (p.mono j.out.size));obtain⟨d0,d1,d2,d3,dl⟩:=HX.out _ j.out;clear p)
  | (go_at_call 13;refine(R.out _ j.out).mono ?_;rintro e w4 ⟨rfl,p⟩;replace j:=Hd (j.out.trans (p.mono j.out.size));clear p)
  | (go_at_call 12;(first|(with_reducible refine(a3.out _ j.out).mono ?_)|(with_reducible refine(a4.out _ j.out).mono ?_));rintro e w4 ⟨rfl,p⟩;replace j:=Hd (j.out.trans (p.mono j.out.size));clear p))
 go_ret;exact⟨rfl,a1.out.trans (j.out.mono a1.out.size)⟩
end
section
open Go.RowKit Go.Proofs.Tryz Go.Deep
def QR(a:Addr):a.add 0=a:=by unfold Addr.add;rw[if_pos rfl]
def MO{a:Addr}(h:a.spot=none)(i:Nat):a.add i=⟨a.block,a.off+i,none⟩:=by
 obtain⟨b,o,s⟩:=a;dsimp only at h;subst h;unfold Addr.add;split
 ·rename_i h0;simp_all
 ·rfl
theorem Xu{p:Addr}(h:w.cell? p=some v):p.spot=none:=by
 unfold World.cell? at h;split at h
 ·split at h
  ·cases h
  ·rename_i i
   cases j:p.spot with
   | none=>rfl
   | some x=>rw[j]at i;exact absurd rfl i
 ·cases h
theorem iG{enc:TypeId×Value->H}:∀(fuel:Nat) (cs:List Value) (x:DataW H×List MemPlace),DataW.trod enc Tryz.prog w 0 (fun _=>true) true fuel 22 cs=some x ->
  ∃A n c,cs=[.slice A n c]/\G6 w (.slice A n c)/\n<=c/\c<=maxLen:=by
 intro fuel;induction fuel using Nat.strongRecOn with
 | _ fuel ih=>
  intro cs x h;rcases DataW.trod_slice underlying22 h with⟨rfl,-⟩|⟨a,len,cap,elems,rest,n,rfl,rfl,-,-,hl,hm,hlen,hel,-,-⟩
  ·exact⟨none,0,0,rfl,.nil _ _,AF _,AX _⟩
  by_cases h0:len=0
  ·subst h0
   exact⟨_,_,_,rfl,.nil _ _,hl,hm⟩
  have hcs:∀i,i<len->∃cs' y,(∀j,j<5->w.cell? ((a.add (i*5)).add j)=cs'[j]?)/\cs'.length=5/\DataW.trod enc Tryz.prog w 0 (fun _=>true) true n 62 cs'=some y:=fun i hi=>by have h1:=hel i hi;rw[eG (by omega),Option.bind_eq_some_iff]at h1;obtain⟨cs',hc,ht⟩:=h1;rw[show Tryz.prog.cellsOf 62=5 by kernel_rfl]at hc;obtain⟨-,h2,h3⟩:=World.cells?_some hc;exact⟨cs',_,h3,h2,ht⟩
  have hsp:a.spot=none:=by obtain⟨cs',y,h1,h2,-⟩:=hcs 0 (by omega);have h3:=h1 0 (by omega);rw[Nat.zero_mul,QR,QR,eG (by omega)]at h3;exact Xu h3
  have hex:∀i,i<len->∃y:Int×ByteArray×ByteArray×Value×Option Addr×Nat×Nat,a.block<w.heap.size/\w.cell? ⟨a.block,a.off+i*5,none⟩=some (.int .i64 y.1) /\
    (w.cell? ⟨a.block,a.off+i*5+1,none⟩=some (.string y.2.1)/\y.2.1.size<=9223372036854775807)/\(w.cell? ⟨a.block,a.off+i*5+2,none⟩=some (.string y.2.2.1)/\y.2.2.1.size<=9223372036854775807) /\
    w.cell? ⟨a.block,a.off+i*5+3,none⟩=some y.2.2.2.1/\w.cell? ⟨a.block,a.off+i*5+4,none⟩=some (.slice y.2.2.2.2.1 y.2.2.2.2.2.1 y.2.2.2.2.2.2)/\G6 w y.2.2.2.1:=fun i hi=>by
   obtain⟨cs',y,hc,h2,ht⟩:=hcs i hi;obtain⟨xs,n',rfl,-,-,hxl,hfl⟩:=DataW.trod_struct underlying62 ht
   match cs',h2 with
   | [v0,v1,v2,v3,v4],_=>
    have q0:=hc 0 (by omega);have q1:=hc 1 (by omega);have q2:=hc 2 (by omega);have q3:=hc 3 (by omega);have q4:=hc 4 (by omega);simp only[List.getElem?_cons_zero,List.getElem?_cons_succ]at q0 q1 q2 q3 q4;have z0:=hfl 0 _ rfl;have z1:=hfl 1 _ rfl;have z2:=hfl 2 _ rfl;have z3:=hfl 3 _ rfl;have z4:=hfl 4 _ rfl;obtain⟨y0,y1,y2,y3,y4,rfl⟩:∃y0 y1 y2 y3 y4,xs=[y0,y1,y2,y3,y4]:=by
     match xs,hxl with
     | [y0,y1,y2,y3,y4],_=>exact⟨_,_,_,_,_,rfl⟩
    simp only[List.getElem_toArray,List.getElem_cons_zero,List.getElem_cons_succ,show Tryz.prog.cellsOf 3=1 by kernel_rfl,show Tryz.prog.cellsOf 9=1 by kernel_rfl,show Tryz.prog.cellsOf 22=1 by kernel_rfl,show Tryz.prog.cellsOf 60=1 by kernel_rfl,List.drop_zero,List.take_succ_cons,List.take_zero,List.drop_succ_cons,List.getElem?_cons_zero,List.getElem?_cons_succ]at z0 z1 z2 z3 z4;obtain⟨K,hK,-,-⟩:=DataW.trod_int underlying3 z0;obtain⟨tx,htx,-,hs1⟩:=DataW.trod_string underlying9 z1;obtain⟨op,hop,-,hs2⟩:=DataW.trod_string underlying9 z2;obtain⟨A3,n3,c3,hp,hpi,-⟩:=ih n' (by omega) [v3] y3 z3
    obtain⟨A4,n4,c4,h4⟩:∃A4 n4 c4,v4=.slice A4 n4 c4:=by
     rcases open_slice underlying60 z4 with⟨e,-⟩|⟨a2,len2,cap2,_,_,_,_,e,-⟩
     ·exact⟨_,_,_,(List.cons.inj e).1⟩
     ·exact⟨_,_,_,(List.cons.inj e).1⟩
    simp only[List.cons.injEq,and_true]at hK htx hop hp;subst hK htx hop hp h4;have hs3:(a.add (i*5)).spot=none:=by rw[MO hsp]
    rw[MO hs3,MO hsp]at q0 q1 q2 q3 q4;exact⟨⟨K,tx,op,_,A4,n4,c4⟩,World.block_lt_of_cell? w ⟨a.block,a.off+i*5+0,none⟩ q0,q0,⟨q1,hs1⟩,⟨q2,hs2⟩,q3,q4,hpi⟩
  obtain⟨V,hV⟩:=choose_lt hex;rw[show a=⟨a.block,a.off,none⟩ by rw[<-hsp]];exact⟨_,_,_,rfl,.row a.block a.off len cap (fun i=>(V i).1) (fun i=>(V i).2.1) (fun i=>(V i).2.2.1) (fun i=>(V i).2.2.2.1) (fun i=>(V i).2.2.2.2) (hV 0 (by omega)).1 (by unfold maxLen at hm;omega)
   (fun i hi=>(hV i hi).2.1) (fun i hi=>(hV i hi).2.2.1) (fun i hi=>(hV i hi).2.2.2.1) (fun i hi=>(hV i hi).2.2.2.2.1) (fun i hi=>(hV i hi).2.2.2.2.2.1) (fun i hi=>(hV i hi).2.2.2.2.2.2),hl,hm⟩
theorem G6.word{A:Option Addr}{n c:Nat}(h:G6 w (.slice A n c))(J:n<=c)(P:c<=maxLen)(hn:n<=1000):∃k s,EX w A n c k s:=by
 generalize hv:Value.slice A n c=v at h;cases h with
 | nil A' c'=>
  cases hv
  exact⟨0,⟨#[]⟩,by omega,⟨J,P⟩,by decide,fun m hm=>by omega⟩
 | row b off n' c' k s a4 kv cv T a3 h3 R h5 h6 h7 h8=>
  cases hv
  have a2:∀j,j<n*5->∃u:Value,w.cell? ⟨b,off+j,none⟩=some u/\u.oneCell'=true:=fun j i=>by
   have o:j/5<n:=by omega
   have e:off+j=off+j/5*5+j%5:=by omega
   have l:j%5=0\/j%5=1\/j%5=2\/j%5=3\/j%5=4:=by omega
   rw[e];rcases l with l|l|l|l|l<;>rw[l]
   ·exact⟨_,h3 _ o,rfl⟩
   ·exact⟨_,(R _ o).1,rfl⟩
   ·exact⟨_,(h5 _ o).1,rfl⟩
   ·refine⟨_,h6 _ o,?_⟩
    have t:=h8 _ o;generalize kv (j/5)=v at t;cases t<;>rfl
   ·exact⟨_,h7 _ o,rfl⟩
  by_cases h0:n=0
  ·exact⟨0,⟨#[]⟩,by omega,⟨J,P⟩,by decide,fun m hm=>by omega⟩
  refine⟨k 0,s 0,by omega,⟨J,P⟩,(R 0 (by omega)).2,fun m hm=>?_⟩;have C:=h3 0 (by omega);have I:=(R 0 (by omega)).1;simp only[Nat.zero_mul,Nat.add_zero]at C I;by_cases hc:c=1
  ·obtain rfl:m=0:=by omega
   exact⟨b,off,_,[],rfl,T,C,I,if_pos hc,fun u p=>(by cases p),fun y hy=>⟨fun u p=>(by cases p),.inr ⟨_,_,rfl,rfl,fun j u i=>by cases i⟩⟩⟩
  ·have hx:∀j u,((List.range (m*5)).map fun j=>(w.cell? ⟨b,off+5+j,none⟩).getD undef)[j]?=some u->w.cell? ⟨b,off+5+j,none⟩=some u/\u.oneCell'=true:=fun j u i=>by
    obtain⟨t,U⟩:=sG.1 i;rw[lM,List.length_range]at t;obtain⟨u',e,a1⟩:=a2 (5+j) (by omega);rw[<-Nat.add_assoc]at e;simp only[List.getElem_map,List.getElem_range,e,Option.getD_some]at U;rw[<-U];exact⟨e,a1⟩
   have a0:∀u∈(List.range (m*5)).map fun j=>(w.cell? ⟨b,off+5+j,none⟩).getD undef,u.oneCell'=true:=fun u p=>by obtain⟨j,i⟩:=List.mem_iff_getElem?.1 p;exact(hx j u i).2
   exact⟨b,off,_,_,rfl,T,C,I,if_neg hc,a0,fun y hy=>⟨a0,.inr ⟨_,_,rfl,by simp,fun j u i=>by rw[MO rfl];exact(hy.cell (p:=⟨b,off+5+j,none⟩) T).trans (hx j u i).1⟩⟩⟩
end
section
open Go.ChangeShapes Go.WideShapes Go.ChangeAt Go.RowKit
open Go.ChangeMaps (open_string)
def Uu(h:w.ShapedOpen Tryz.prog):Gy w:=
 Go.Proofs.cell_of_shapedOpen_int (zero:=#[.int .i64 0]) (t:=3) h (of_decide_eq_true (by kernel_rfl)) (by kernel_rfl) rfl (by kernel_rfl) (by kernel_rfl) underlying3
def RM{enc:TypeId×Value->H}{base:Nat}{d:DataW H}{p:List MemPlace}(hv:Value.okWide Tryz.prog w .any base 26 v)
  (h:DataW.Trod enc Tryz.prog w 0 (fun _=>true) true 26 v d p):∃K op A n c N,v=EM K op A n c N/\G6 w (.slice A n c)/\n<=c/\c<=maxLen:=by
 obtain⟨cs,rfl,-⟩:=okWide_struct underlying26 hv;obtain⟨a3,hf⟩:=h;obtain⟨xs,n,rfl,-,j,a2,i⟩:=DataW.trod_struct underlying26 hf;rw[show Tryz.prog.cellsOf 26=4 by kernel_rfl]at j;obtain⟨I⟩:=cs;change I.length=4 at j
 match I,j with
 | [v0,v1,v2,v3],_=>
  obtain⟨l,o,t,C,rfl⟩:∃l o t C,xs=[l,o,t,C]:=by
   match xs,a2 with
   | [l,o,t,C],_=>exact⟨_,_,_,_,rfl⟩
  have z0:=i 0 _ rfl;have z1:=i 1 _ rfl;have z2:=i 2 _ rfl;have z3:=i 3 _ rfl;simp only[Value.cells,List.getElem_toArray,List.getElem_cons_zero,List.getElem_cons_succ,show Tryz.prog.cellsOf 3=1 by kernel_rfl,show Tryz.prog.cellsOf 9=1 by kernel_rfl,show Tryz.prog.cellsOf 24=1 by kernel_rfl,List.drop_zero,List.take_succ_cons,List.take_zero,List.drop_succ_cons,List.getElem?_cons_zero,List.getElem?_cons_succ]at z0 z1 z2 z3;obtain⟨K,J,-,-⟩:=DataW.trod_int underlying3 z0;obtain⟨op,R,-,-⟩:=DataW.trod_int underlying3 z1;obtain⟨N,P,-,-⟩:=DataW.trod_string underlying9 z3;obtain⟨ws,n',-,-,-,a1,a0⟩:=DataW.trod_struct underlying24 z2
  obtain⟨u0,rfl⟩:∃u0,ws=[u0]:=by
   match ws,a1 with
   | [u0],_=>exact⟨_,rfl⟩
  have U:=a0 0 _ rfl;simp only[List.getElem_toArray,List.getElem_cons_zero,show Tryz.prog.cellsOf 22=1 by kernel_rfl,List.drop_zero,List.take_succ_cons,List.take_zero,List.getElem?_cons_zero]at U;obtain⟨A,m,c,T,h1,h2,h3⟩:=iG _ _ _ U;simp only[List.cons.injEq,and_true]at J R P T;subst J R P T;exact⟨K,op,A,m,c,N,rfl,h1,h2,h3⟩
def UO{enc:TypeId×Value->H}{a:Assume}{C:Checked}{os:Os}{f:FuncId}{fn:Func}{s:ChangeSpec}{R:List PathCond}{apart fresh T P:Bool}{X:World->Array Value->Prop}
  (hX:∀(w w':World) (args:Array Value),w.heap=w'.heap->X w args->X w' args)
  (own:ownKnob C.prog.godebug=none) (a9:os.Started) (a8:C.prog.inits.idxOf? f=none) (a1:C.prog.funcs[f]?=some fn)
  (aa:∃(w:World) (l:Tape) (i:Input),w.os=os/\(w.forCall l i).Shaped C.prog/\i.vars=[]/\Input.okWide C.prog (w.forCall l i) .any w.heap.size f i /\
   ((s.pre enc C.prog fn R apart (w.forCall l i).memory i.args/\X (w.forCall l i).memory i.args)/\sizedMet enc C.prog fn (OpenSpec.ofChange s) apart (w.forCall l i).memory i.args)/\a.holds C.prog (lone (Frame.enter C.prog f i.args .normal) [] (w.forCall l i)))
  (U:∀(W:World) (base:Nat) (args:Array Value) (p I:List (DataW H)) (o:List MemPlace),
   (∀(j:Nat) t v,fn.params[j]?=some t->args[j]?=some v->Value.okWide C.prog W .any base t v) ->
   DataW.Whole enc C.prog fn.params.toList s.vars apart W args.toList p I o->W.ShapedOpen C.prog->X W args ->
   Calls C.prog f args W fun e J=>∃v,e=.returned v/\s.post enc C.prog fn apart fresh T P W args v J) :
  ReturnsInHanded a C os f .any (fun w args=>(s.pre enc C.prog fn R apart w args/\X w args)/\sizedMet enc C.prog fn (OpenSpec.ofChange s) apart w args) (s.post enc C.prog fn apart fresh T P):=by
 refine returnsInHanded_of_calls own a9 a8 aa ?_;intro w l i _ a5 _ a3 a4 _;obtain⟨_,_,_,a0,a2,_,_,_,_,a6⟩:=a3;have e:a0=fn:=Option.some.inj (a2.symm.trans a1);subst e;obtain⟨⟨⟨p,I,o,hw,hc⟩,hx⟩,hz⟩:=a4;have a7:=DataW.Whole.of_heap (w':=w.forCall l i) (by rfl) hw;refine(U (w.forCall l i) w.heap.size i.args p I o a6 a7 a5 (hX _ _ _ (by rfl) hx)).mono fun e J ⟨v,he,hp⟩=>?_
 subst he;exact ChangeSpec.post_blind hp
end
end Go.Proofs.YtlogpnoioimhjaaGreatDoor
