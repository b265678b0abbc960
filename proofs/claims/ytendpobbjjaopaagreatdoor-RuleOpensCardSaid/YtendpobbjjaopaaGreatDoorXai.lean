/- . -/
import Derived.Test.YtendpobbjjaopaaGreatDoorXag
import Derived.Test.YtendpobbjjaopaaGreatDoorXah
import Derived.Lib.Builder
import Derived.Lib.AppendStr
import Derived.Laws.Externs
import Derived.Test.YtendpobbjjaopaaGreatDoorXnm
set_option linter.all false
set_option maxRecDepth 100000
set_option maxHeartbeats 16000000
namespace Go.Proofs.YtendpobbjjaopaaGreatDoor
open Go.RowKit
open Value renaming int→oH,pointer→oI
open Option renaming some→oM,none→oN
open Obj renaming cells→oP
open Ending renaming returned→oQ
open World renaming cell?→oT
open Go renaming World→oU,Value→oV
def Tryz.TY:(Tryz.prog.info? 289).map (·.size)=oM 2:=by kernel_rfl
def Tryz.XB:liesAt Tryz.prog Tryz.prog.depth 289 (2/Tryz.prog.cellsOf 289) 0 289 1=true:=by kernel_rfl
def Tryz.infoByte:(Tryz.prog.info? 5).map (fun i=>(i.zero,i.size,i.bytes))=oM (oM (oH .u8 0),1,1):=by kernel_rfl
def XE(b:Nat)(w:oU)(h0:oT w (b,0)=oM (oI (b,0))):() 227 #[(b,0)] w fun e w'=>e=oQ (.tuple #[])/\w'=w:=by
 obtain⟨j,i,_⟩:=Option.map_eq_some_iff.1 Tryz.TY;go_enter Tryz.func227,Tryz.ntmps227
 go_wp2;rw[Lib.run_neq_ptr_same w _ Tryz.underlying287 i];go_wp2
 go_end0
 exact⟨rfl,rfl⟩
def We(b:Nat)(w:oU)(h0:oT w (b,0)=oM (oI oN))(l:w.shape? b=oM (289,2))(p:w.frozen? (b,0)=false) :
  () 227 #[(b,0)] w fun e w'=>e=oQ (.tuple #[])/\w'=w.setCell (b,0) (b,0):=by
 obtain⟨j,i,o⟩:=Option.map_eq_some_iff.1 Tryz.TY;go_enter Tryz.func227,Tryz.ntmps227
 go_wp2;rw[Lib.run_to_unsafe w ⟨b,0,oN⟩ Tryz.underlying287 Tryz.underlying313 i (by rw[o];decide) l (Nat.zero_lt_succ 1)];simp only[Result.andThen];rw[Oper.upon_value];go_wp2;rw[run_callFunc_extern Tryz.func237 nZ nZ nZ (e:=Extern.AbiNoEscape.same) nZ];rw[Lib.run_noEscape];simp only[Result.andThen];rw[Oper.upon_value];go_wp2;rw[Lib.run_from_unsafe w ⟨b,0,oN⟩ Tryz.underlying313 Tryz.underlying287 i l Tryz.XB];simp only[Result.andThen];rw[Oper.upon_value];go_wp2
 go_end0
 exact⟨rfl,rfl⟩
def aY(B b:Nat)(bs:List oV)(w:oU)(h:Lib.IsBuilder 289 5 B b bs w):() 227 #[(b,0)] w fun e w'=>e=oQ (.tuple #[])/\Lib.BuilderAt 289 5 B b (b,0) bs w'/\Below B w w'/\∀g,g≠b->w'.heap[g]?=w.heap[g]?:=by
 rcases h with h|h
 ·refine(We b w h.cell0 h.shape h.frozen0).mono ?_
  rintro e w' ⟨rfl,rfl⟩;exact⟨rfl,h.used _,(Below.refl B w).setCell (p:=⟨b,0,oN⟩) h.1 _,fun g i=>Below.heap_setCell _ _ _ _ i⟩
 ·refine(XE b w h.cell0).mono ?_
  rintro e w' ⟨rfl,rfl⟩;exact⟨rfl,h,Below.refl B _,fun _ _=>rfl⟩
def jW(B b g:Nat)(bs:List oV)(x y z:Int)(w:oU)(h:Lib.IsBuilder 289 5 B b bs w)(af:bs.length+3<=140737488355328)(ae:B<=w.heap.size)(I:Ah w g 5 #[oH .u8 x,oH .u8 y,oH .u8 z]) :
  () 209 #[(b,0),.slice (g,0) 3 3] w fun e w'=>e=oQ (.tuple #[oH .i64 3,.nilIface])/\Lib.BuilderAt 289 5 B b (b,0) (bs++[oH .u8 x,oH .u8 y,oH .u8 z]) w'/\Below B w w':=by
 obtain⟨i0,hi,a9,aa,ab⟩:=info_parts Tryz.infoByte;have a6:g≠b:=by
  rintro rfl;have t:w.shape? g=oM (289,2):=by rcases h with h|h<;>exact h.shape
  have R:w.shape? g=oM (5,3):=by have:=I;unfold Ah at this;simp[World.shape?,this]
  rw[t]at R;cases R
 go_enter Tryz.func209,Tryz.ntmps209
 go_wp2_with (go_at_call 227;refine(aY B b bs _ h).mono ?_)
 rintro e i ⟨rfl,t,C,a0⟩;have a5:Ah i g 5 #[oH .u8 x,oH .u8 y,oH .u8 z]:=(a0 g a6).trans I;clear a0 I;obtain⟨T,v,l,a1,a8⟩:=t;have c0:oT i (b,0)=oM (oI (b,0)):=by rw[Lib.cell_of_heap l];rfl
 have c1:oT i (b,1)=oM v:=by rw[Lib.cell_of_heap l];rfl
 go_wp2_with (at_builtin;refine wpList_append_own _ rfl _ _ 69 rfl B 5 i0 (oH .u8 0) 1 1 Tryz.underlying69 hi a9 aa ab rfl nY _ _ _ rfl a1 (g,0) 3 3 [oH .u8 x,oH .u8 y,oH .u8 z] rfl rfl ?c1 ?c2 ?c3 ?c4 ?c5 ?_)
 case c1=>
  intro a3 u hj;have a4:((g,0):Addr).add a3=(g,a3):=by unfold Addr.add;split<;>simp_all
  rw[a4,a5.cell];simpa using hj
 case c2=>intro u hu;simp at hu;rcases hu with rfl|rfl|rfl<;>rfl
 case c3=>unfold maxLen;omega
 case c4=>omega
 case c5=>have:=C.size;omega
 intro v' o a2 U _;have a7:b<i.heap.size:=by
  rcases Nat.lt_or_ge b i.heap.size with p|p
  ·exact p
  ·simp[Array.getElem?_eq_none p]at l
 have j:o.heap[b]?=oM (oP #[(b,0),v] 289 (0,0)):=by rw[U.block b a7 (fun e=>a8 e.symm)];exact l
 have d0:oT o (b,0)=oM (oI (b,0)):=by rw[Lib.cell_of_heap j];rfl
 have d1:oT o (b,1)=oM v:=by rw[Lib.cell_of_heap j];rfl
 have f1:o.frozen? (b,1)=false:=Lib.frozen_of_heap j 1;obtain⟨P,n',cap,rfl⟩:∃P n' cap,v'=.slice P n' cap:=by
  rcases a2.2 with⟨J,_⟩|⟨g,cap,ad,J,_⟩
  ·exact⟨_,_,_,J⟩
  ·exact⟨_,_,_,J⟩
 go_wp2
 go_ret2
 refine⟨rfl,?_,?_⟩
 ·exact Lib.BuilderAt.put (T:=289) (e:=5) T j (bs':=bs++[oH .u8 x,oH .u8 y,oH .u8 z]) (by simpa using a2) nY
 ·exact(C.grown U (by have:=C.size;omega) (fun k hk=>(a1.lt k hk).1)).setCell (p:=⟨b,1,oN⟩) T _
def JE(x:It):List UInt8:=[(x.1/256).toUInt8,x.1.toUInt8,x.2.toUInt8]
def Cg(l:List It):List UInt8:=l.flatMap JE
theorem JG(l:List It):(Cg l).length=l.length*3:=by
 induction l with
 | nil=>rfl
 | cons x l i=>show (JE x++Cg l).length=_;rw[Cb,i,List.length_cons];show 3+_=_;omega
def eK(l:List It)(x:It):Lib.byteCells (Cg (l++[x]))=Lib.byteCells (Cg l)++[oH .u8 ((x.1/256)%256:Nat),oH .u8 (x.1%256:Nat),oH .u8 (x.2%256:Nat)]:=by simp[Cg,Lib.byteCells,JE,List.flatMap_append]
def Zg{x y:It}(o:x.1<65536/\x.2<256)(p:y.1<65536/\y.2<256)(h:JE x=JE y):x=y:=by simp only[JE,List.cons.injEq,and_true]at h;have i:=congrArg UInt8.toNat h.1;have j:=congrArg UInt8.toNat h.2.1;have l:=congrArg UInt8.toNat h.2.2;simp only[Nat.toUInt8_eq,UInt8.toNat_ofNat']at i j l;exact Prod.ext nX nX
theorem PQ:∀{l m:List It},(∀x∈l,x.1<65536/\x.2<256)->(∀x∈m,x.1<65536/\x.2<256)->Cg l=Cg m->l=m
 | [],[],_,_,_=>rfl
 | [],y::m,_,_,h=>by have:=congrArg List.length h;rw[JG,JG]at this;simp at this
 | x::l,[],_,_,h=>by have:=congrArg List.length h;rw[JG,JG]at this;simp at this
 | x::l,y::m,j,o,h=>by have p:JE x++Cg l=JE y++Cg m:=h;obtain⟨t,C⟩:=List.append_inj p rfl;rw[Zg (j x (List.mem_cons_self ..)) (o y (List.mem_cons_self ..)) t,PQ (fun z i=>j z (List.mem_cons_of_mem _ i)) (fun z i=>o z (List.mem_cons_of_mem _ i)) C]
def XH{T e:TypeId}{B b:Nat}{bs:List oV}{w w':oU}(h:Lib.IsBuilder T e B b bs w)(i:Below w w w'):Lib.IsBuilder T e B b bs w':=by
 have key:∀p,Lib.BuilderAt T e B b p bs w->Lib.BuilderAt T e B b p bs w':=fun p j=>by have I:=j.lt;obtain⟨C,v,l,o,t⟩:=j;exact⟨C,v,(i.block b I).trans l,AU o i,t⟩
 exact h.imp (key _) (key _)
def Wj{w:oU}{v:oV}{l:List It}(h:CQ w v l)(hl:l.length<=100000)(hx:∀x∈l,x.1<=100000/\x.2<=100000):() 176 #[v] w fun e w'=>e=oQ (.string ⟨(Cg l).toArray⟩)/\Below w w w':=by
 obtain⟨⟨A,c,rfl,hc⟩,-,-⟩:=h;have HC:=Hd hc;have HX:=Hd hx;clear hc hx;have a5:=Hd (Lib.fresh_isBuilder 289 5 w);have a4:=Hd (AG w (oP #[oI oN,.slice oN 0 0] 289));obtain⟨r,P⟩:∃r,(⟨(Cg l).toArray⟩:ByteArray)=r:=⟨_,rfl⟩
 have HR:=Hd P;rw[P];clear P;go_enter Tryz.func176,Tryz.ntmps176
 go_wp2_with fail
 go_loopw [8] (fun i wr=>∃k:Nat,k<=l.length/\i=oH .i64 k/\Hid (Lib.IsBuilder 289 5 w.heap.size w.heap.size (Lib.byteCells (Cg (l.take k))) wr)/\Hid (Below w w wr)/\w.heap.size<wr.heap.size) (fun i _=>l.length-(intOf i).toNat)
 case atStart=>exact⟨0,AX _,rfl,a5,a4,oA⟩
 case round=>
  obtain⟨k,hk,rfl,t,o,ad⟩:=hrel;by_cases aa:k<l.length
  ·obtain⟨⟨a,d⟩,T⟩:∃x,l[k]?=oM x:=⟨_,eG aa⟩
   obtain⟨U,a3,rfl,j,C,I⟩:=HC k _ T;have a9:=HX _ (mG T);have C:=(o.cell (p:=⟨U,a3+k*2,oN⟩) j).trans C;have I:=(o.cell (p:=⟨U,a3+k*2+1,oN⟩) j).trans I;simp only at C I a9;have a1:l.take (k+1)=l.take k++[(a,d)]:=by rw[List.take_add_one,T];rfl
   have a8:Hid (Lib.byteCells (Cg (l.take k))++[oH .u8 ((a:Int)/256%256),oH .u8 ((a:Int)%256),oH .u8 ((d:Int)%256)]=Lib.byteCells (Cg (l.take (k+1)))):=Hd (by rw[a1,eK];simp);have a7:Hid ((Lib.byteCells (Cg (l.take k))).length+3<=140737488355328):=Hd (by have h1:=JG (l.take k);simp[Lib.byteCells,h1];omega)
   clear a1;have R:w.heap.size<=wr.heap.size:=by omega
   go_wp2_with fail
   have j:=(AG wr (oP #[a,d] 220)).trans ((AG (wr.alloc (oP #[a,d] 220)) (oP #[oH .u8 ((a:Int)/256%256),oH .u8 ((a:Int)%256),oH .u8 ((d:Int)%256)] 5)).mono oA);refine(jW w.heap.size w.heap.size (wr.heap.size+1) _ ((a:Int)/256%256) ((a:Int)%256) ((d:Int)%256) _ (XH t j) a7 oC (Ah.newAt oA)).mono ?_;rintro e w1 ⟨rfl,a0,J⟩;have a6:=Hd a0;have p:=Hd ((o.trans (j.mono R)).trans J);have ab:w.heap.size<w1.heap.size:=by have:=j.size;have:=J.size;simp at *;omega
   clear a0 J j;go_wp2_with fail
   go_roundw
   case rel=>exact⟨k+1,nX,oD,Hd (by rw[<-a8.out];exact .inr a6),p,ab⟩
   case measure=>simp[intOf];omega
  ·obtain rfl:k=l.length:=by omega
   rw[List.take_length]at t;have R:w.heap.size<=wr.heap.size:=by omega
   go_wp2_with fail
   refine(Tryz.Builder_String_any _ _ _ wr t R).mono ?_;rintro e w1 ⟨rfl,a2⟩;have p:=Hd (o.trans a2);clear a2;go_wp2;go_ret;exact⟨by rw[<-HR.out];rfl,p⟩
