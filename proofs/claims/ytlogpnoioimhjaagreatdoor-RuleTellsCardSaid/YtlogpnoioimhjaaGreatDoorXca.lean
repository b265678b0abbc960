/- Where the first = stands. -/
import Derived.Test.YtlogpnoioimhjaaGreatDoorXaj
import Derived.Laws.CopyRow
import Derived.Lib.AppendZeros
import Derived.Lib.Overlaps
import Derived.Laws.Externs
set_option linter.all false
set_option maxRecDepth 100000
set_option maxHeartbeats 16000000
namespace Go.Proofs.YtlogpnoioimhjaaGreatDoor
open Go.RowKit Go.Proofs.Tryz
variable{P:Program}{w:World}{J:Array Oper}{o:Oper}{Q:Exit->Act->World->Prop}{base c n:Nat}{us xs:List Value}{e:TypeId}{A:Option Addr}
def J6(s:ByteArray):Int:=Lib.indexByte s.data.toList 61
def DQ(s:ByteArray):Int:=if J6 s<0 then -1 else if D3 (s.data.toList.take (J6 s).toNat)=true then J6 s else -1
theorem T9(l:List UInt8)(c:UInt8):Lib.indexByte l c<l.length:=by
 induction l with
 | nil=>simp[Lib.indexByte]
 | cons b l i=>
  unfold Lib.indexByte;simp only[List.length_cons];split
  ·omega
  ·split<;>omega
def Us(s:ByteArray)(n:Nat):(s.extract 0 n).data.toList=s.data.toList.take n:=by rw[Lib.extract_data];simp
def Ra(s:ByteArray) : -1<=DQ s/\DQ s<s.size:=by
 have i:=T9 s.data.toList 61;have j:s.data.toList.length=s.size:=by simp
 have l:=Lib.indexByte_ge s.data.toList 61;unfold DQ J6;split
 ·omega
 ·split<;>omega
def Vu(s:ByteArray)(c:Int)(w:World):Calls Tryz.prog 93 #[.string s,.int .u8 c] w fun e w'=>e=.returned (.int .i64 (Lib.indexByte s.data.toList c.toNat.toUInt8))/\w'=w:=by
 have i:=Hd (Tryz.stringslite_IndexByte s c w);go_enter func93,ntmps93
 go_wp2_with (go_at_call 131;refine i.out.mono ?_;rintro e w' ⟨rfl,rfl⟩)
 go_ret;exact⟨rfl,rfl⟩
def Yq(s:ByteArray)(T:s.size<=9223372036854775807)(w:World):Calls Tryz.prog 68 #[.string s] w fun e w'=>e=.returned (.int .i64 (DQ s))/\Below w.heap.size w w':=by
 have l:=Hd (Vu s 61 w);have J:(61:Int).toNat.toUInt8=61:=rfl;rw[J]at l;have C:=T9 s.data.toList 61;have t:=Lib.indexByte_ge s.data.toList 61;have I:s.data.toList.length=s.size:=by simp
 rw[I]at C;unfold DQ J6;generalize Lib.indexByte s.data.toList 61=i at *;by_cases h0:i<0
 ·obtain rfl:i = -1:=by omega
  rw[if_pos h0];clear h0 C t;go_enter func68,ntmps68
  go_wp2_with (go_at_call 93;refine l.out.mono ?_;rintro e w' ⟨rfl,rfl⟩)
  go_ret;exact⟨rfl,Below.refl _ _⟩
 ·rw[if_neg h0]
  obtain⟨k,rfl⟩:∃k:Nat,i=k:=⟨i.toNat,by omega⟩
  rw[Int.toNat_natCast];have P:k<s.size:=by omega
  have j:=Hd (OV (s.extract 0 k) (by rw[ByteArray.size_extract];omega) w);rw[Us]at j;have R:¬((k:Int)<0):=by omega
  cases o:D3 (s.data.toList.take k) with
  | true=>
   rw[o]at j;rw[if_pos rfl];clear o h0 t;go_enter func68,ntmps68
   go_wp2_with (first
    | (go_at_call 93;refine l.out.mono ?_;rintro e w' ⟨rfl,rfl⟩)
    | (go_at_call 27;refine j.out.mono ?_;rintro e w' ⟨rfl,p⟩))
   go_ret;exact⟨rfl,p⟩
  | false=>
   rw[o]at j;rw[if_neg (by simp)];clear o h0 t;go_enter func68,ntmps68
   go_wp2_with (first
    | (go_at_call 93;refine l.out.mono ?_;rintro e w' ⟨rfl,rfl⟩)
    | (go_at_call 27;refine j.out.mono ?_;rintro e w' ⟨rfl,p⟩))
   go_ret;exact⟨rfl,p⟩
def index_drop(s:ByteArray)(k:Nat)(t:k<s.size)(h:Lib.indexByte s.data.toList 61=(if Lib.indexByte (s.data.toList.drop k) 61 = -1 then -1 else k+Lib.indexByte (s.data.toList.drop k) 61)) :
  (s[k]=61->Lib.indexByte s.data.toList 61=k)/\(s[k]≠61->Lib.indexByte s.data.toList 61=(if Lib.indexByte (s.data.toList.drop (k+1)) 61 = -1 then -1 else(k+1:Nat)+Lib.indexByte (s.data.toList.drop (k+1)) 61)):=by
 have p:=Iy s k t;have e:Lib.indexByte (s.data.toList.drop k) 61=if s[k]==61 then 0 else if Lib.indexByte (s.data.toList.drop (k+1)) 61 == -1 then -1 else Lib.indexByte (s.data.toList.drop (k+1)) 61+1:=by rw[p];rfl
 rw[e]at h;constructor
 ·intro i
  rw[h,i];simp
 ·intro i
  have l:(s[k]==61)=false:=by simpa using i
  rw[h,l];have C:=Lib.indexByte_ge (s.data.toList.drop (k+1)) 61;by_cases j:Lib.indexByte (s.data.toList.drop (k+1)) 61 = -1
  ·rw[j];simp
  ·have o:(Lib.indexByte (s.data.toList.drop (k+1)) 61 == -1)=false:=by simpa using j
   rw[o,if_neg j];simp only[Bool.false_eq_true,if_false];rw[if_neg (by omega)];omega
def Xb(s:ByteArray)(hs:s.size<=9223372036854775807)(w:World):Calls Tryz.prog 77 #[.string s] w fun e w'=>e=.returned (.int .i64 (DQ s))/\w=w':=by
 go_enter func77,ntmps77
 go_wp2
 go_loop [3] (fun i=>∃k:Nat,k<=s.size/\i=.int .i64 k/\Hid (Lib.indexByte s.data.toList 61=(if Lib.indexByte (s.data.toList.drop k) 61 = -1 then -1 else k+Lib.indexByte (s.data.toList.drop k) 61))) (fun i=>s.size-(intOf i).toNat)
 case atStart=>exact⟨0,AX _,rfl,Hd (by have:=Lib.indexByte_ge s.data.toList 61;rw[List.drop_zero];split<;>omega)⟩
 case round=>
  obtain⟨k,hk,rfl,R⟩:=hrel;by_cases U:k<s.size
  ·obtain⟨C,I⟩:=index_drop s k U R.out
   by_cases j:s[k]=61
   ·have P:=C j
    have o:=Hd (SZ (s.extract 0 k) (by rw[ByteArray.size_extract];omega) w);rw[Us]at o;have l:DQ s=if D3 (s.data.toList.take k)=true then(k:Int) else -1:=by unfold DQ J6;rw[P,if_neg (by omega),Int.toNat_natCast]
    have J:s[k].toNat=61:=by rw[j];rfl
    have a1:(s[k].toNat:Int)=61:=by omega
    cases t:D3 (s.data.toList.take k) with
    | true=>
     rw[t]at o l;have p:Hid (DQ s=k):=Hd (by rw[l,if_pos rfl]);clear C I P l t j;go_wp2_with (go_at_call 56;refine o.out.mono ?_;rintro e w' ⟨rfl,rfl⟩)
     go_ret;exact⟨by rw[p.out];rfl,rfl⟩
    | false=>
     rw[t]at o l;have p:Hid (DQ s = -1):=Hd (by rw[l,if_neg (by simp)]);clear C I P l t j;go_wp2_with (go_at_call 56;refine o.out.mono ?_;rintro e w' ⟨rfl,rfl⟩)
     go_ret;exact⟨by rw[p.out];rfl,rfl⟩
   ·have T:=Hd (I j)
    have J:(s[k].toNat:Int)≠61:=fun h=>j (by apply UInt8.toNat.inj;show s[k].toNat=61;omega)
    have a0:((s[k].toNat:Int) != 61)=true:=by simpa using J
    clear C I j J;go_wp2
    go_round
    case rel=>exact⟨k+1,by omega,by go_num,T⟩
    case measure=>simp[intOf];omega
  ·obtain rfl:k=s.size:=by omega
   have p:Hid (DQ s = -1):=Hd (by unfold DQ J6;rw[R.out,LU];simp[Lib.indexByte])
   go_wp2;go_ret;exact⟨by rw[p.out];rfl,rfl⟩
def Ib:El Tryz.prog 22 62 5 88:=El.of (z:=.agg #[.int .i64 0,.string ⟨#[]⟩,.string ⟨#[]⟩,.slice none 0 0,.slice none 0 0]) underlying22 (by kernel_rfl) rfl (by decide)
def Ti(w:World)(U sT ty elem:TypeId)(sz g o T a3:Nat)(sp:Option Addr)(m sc k ck:Nat)(j:Array Value)(t:TypeId)(news:List Value)
  (hu:P.underlying U=some (.slice elem)) (hs:(P.info? elem).map (·.size)=some sz) (I:w.heap[g]?=some (.cells j t (0,0))) (J:Nat.min m T=k) (a4:AY w (.slice sp k ck) k sz news) (a5:o+k*sz<=j.size) :
  ∃w' l,(Builtin.copy_ #[U,sT] ty #[.slice (some ⟨g,o,none⟩) T a3,.slice sp m sc]).run P w=.ok (goInt k) w'/\Aj (·=g) w w'/\Ah w' g t l/\l.size=j.size:=by
 obtain⟨i,p,hi⟩:∃i,P.info? elem=some i/\i.size=sz:=by
  cases p:P.info? elem with
  | none=>simp[p]at hs
  | some i=>exact⟨i,rfl,by simpa [p] using hs⟩
 obtain⟨h1,⟨C,a6,rfl⟩|⟨ad,c,C,R,hc⟩⟩:=a4
 ·cases C
  refine⟨w,j,?_,Aj.refl _ _,I,rfl⟩;simp[Builtin.copy_,run_underlying hu,Builtin.lenOf,Builtin.firstCells,sizeOf,typeInfo,p,storeCells,J]
 ·cases C
  have a1:=run_loadCells_list (P:=P) w ad news hc;have a2:=run_storeCells_at P g o t news 0 j w I (by rw[R];omega) h1;rw[R]at a1;obtain⟨l,a0⟩:∃l,(j.toList.take (o+0)++news++j.toList.drop (o+0+news.length)).toArray=l:=⟨_,rfl⟩
  rw[a0]at a2;refine⟨w.setRow g l,l,?_,?_,setRow_heap w g j l t _ I,?_⟩
  ·simp[Builtin.copy_,run_underlying hu,Builtin.lenOf,Builtin.firstCells,sizeOf,typeInfo,p,hi,J,a1,a2]
  ·exact⟨rfl,rfl,rfl,by simp[World.setRow],fun k J hx=>setRow_other w g k _ hx⟩
  ·rw[<-a0,List.size_toArray,B8,B8,R,List.length_take,List.length_drop,Array.length_toList]
   omega
def UC{rest:List Oper}{a:Act}(a1:o.guard=none)(d s:Operand)(p R:TypeId)
  (ho:o.op=.call {callee:=.builtin .copy,args:=#[d,s],argTypes:=#[p,R]}) (elem:TypeId) (sz g off l I:Nat) (C:Option Addr) (m T k ck:Nat) (i:Array Value) (t:TypeId) (news:List Value)
  (hd:a.eval d=.slice (some ⟨g,off,none⟩) l I) (hs:a.eval s=.slice C m T)
  (hu:P.underlying p=some (.slice elem)) (hz:(P.info? elem).map (·.size)=some sz) (hg:Ah w g t i) (hk:Nat.min m l=k) (a3:AY w (.slice C k ck) k sz news) (a0:off+k*sz<=i.size)
  (h:∀w' j,Aj (·=g) w w'->Ah w' g t j->j.size=i.size->wpList P J Q rest (a.put o.dst (goInt k)) w'):wpList P J Q (o::rest) a w:=by
 refine wpList_plain a1 fun K hK=>?_
 obtain⟨w',j,a2,U,h2,h3⟩:=Ti (P:=P) w p R o.type elem sz g off l I C m T k ck i t news hu hz hg hk a3 a0;unfold Oper.wp;simp[execOp,ho,resolve,invoke,builtin,hd,hs,a2,Result.andThen];exact hK _ _ (h w' j U h2 h3)
def TJ{a:Act}{K:Act->World->Prop}{E:Prop}(a1:o.guard=none)(d s:Operand)(p R:TypeId)
  (ho:o.op=.call {callee:=.builtin .copy,args:=#[d,s],argTypes:=#[p,R]}) (elem:TypeId) (sz g off l I:Nat) (C:Option Addr) (m T k ck:Nat) (i:Array Value) (t:TypeId) (news:List Value)
  (hd:a.eval d=.slice (some ⟨g,off,none⟩) l I) (hs:a.eval s=.slice C m T)
  (hu:P.underlying p=some (.slice elem)) (hz:(P.info? elem).map (·.size)=some sz) (hg:Ah w g t i) (hk:Nat.min m l=k) (a3:AY w (.slice C k ck) k sz news) (a0:off+k*sz<=i.size)
  (h:∀w' j,Aj (·=g) w w'->Ah w' g t j->j.size=i.size->K (a.put o.dst (goInt k)) w') :
  if Region.wanted o (yielded J a.tmps)=true then Oper.wp P o a w K Q else E:=by
 have hw:Region.wanted o (yielded J a.tmps)=true:=by simp[Region.wanted,a1]
 rw[if_pos hw];obtain⟨w',j,a2,U,h2,h3⟩:=Ti (P:=P) w p R o.type elem sz g off l I C m T k ck i t news hu hz hg hk a3 a0;unfold Oper.wp;simp[execOp,ho,resolve,invoke,builtin,hd,hs,a2,Result.andThen];exact h w' j U h2 h3
def YZ(w:World)(t l ty e:TypeId)(i:TypeInfo)(z:Value)(k kn:IntKind)(ht:P.underlying t=some (.slice e))(a3:P.underlying l=some (.int kn))(R:P.info? e=some i)(hz:i.zero=some z)
  (ad:Addr) (n c:Nat) (J:c<n) (hs:0<i.size) (a4:(n:Int)<=9223372036854775807) (o:n*i.bytes<=140737488355328) :
  (Builtin.append_ #[t,l] ty #[.slice (some ad) 0 c,.int k n]).run P w =
   .ok (.slice (some ⟨w.heap.size,0,none⟩) n (grownCap w n c e)) (w.drew.alloc (.cells (Builtin.zeroCells z.cells n++Builtin.zeroCells z.cells (grownCap w n c e-n)) e)):=by
 have U:n≠0:=by omega
 have hw:IntKind.i64.wrap (n:Int)=n:=by rw[IntKind.wrap_i64];omega
 have I:¬(9223372036854775807<(n:Int)):=by omega
 have p:¬(281474976710656<Builtin.nextslicecap n c*i.bytes):=by have:=growslice_fits J o;omega
 have C:¬(281474976710656<(n:Int)*(i.bytes:Int)):=by rw[<-Int.natCast_mul];omega
 have a1:¬((n:Int)<0):=by omega
 have a2:¬(n*i.size=0):=Nat.mul_ne_zero U (by omega);have a0:¬(n<=c):=by omega
 have j:=run_loadCells_list (P:=P) w.drew ad [] (fun a5 v T=>by cases T);simp at j;simp[Builtin.append_,run_underlying ht,run_underlying a3,sizeOf,typeInfo,zeroValue,R,hz,asInt,asIntOf,hw,a1,a2,I,p,C,a0,Question.forced,Builtin.firstCells,j,newRow,grownCap]
def Tryz.TA:(Tryz.prog.info? 62).map (fun i=>(i.zero,i.size,i.bytes))=some (some (.agg #[.int .i64 0,.string ⟨#[]⟩,.string ⟨#[]⟩,.slice none 0 0,.slice none 0 0]),5,88):=by kernel_rfl
def cO{ad:Addr}(i:∀y,Below w.heap.size w y->AY y (.slice (some ad) n c) n 5 xs)(T:n<=1048576) :
  Calls Tryz.prog 69 #[.slice (some ad) n c] w fun e w'=>∃A c,e=.returned (.slice A n c)/\w'.ownsRow w.heap.size 62 5 (.slice A n c) n xs/\Below w.heap.size w w':=by
 have C:=Hd i;have R:=Ib;have I:Hid (∀y:World,y=w.alloc (.cells #[] 62)->y.ownsRow w.heap.size 62 5 (.slice (some ⟨w.heap.size,0,none⟩) 0 0) 0 []):=Hd (fun y J=>by rw[J];exact Mf (W:=w) rfl (AF _) (by decide) rfl);have U:∀(y:World) (ad:Addr) (n c:Nat),(binOp BinOp.eql 22 (.slice (some ad) n c) (.slice none 0 0)).run Tryz.prog y=.ok (.bool false) y:=fun _ _ _ _=>by kernel_rfl
 clear i;go_enter func69,ntmps69
 go_wp2_with (
   at_builtin;refine Dc Ib (.tmp 5) (.tmp 6) rfl rfl (base:=w.heap.size) (n:=0) (m:=n) (N:=n) (xs:=[]) (news:=xs) rfl rfl (I.out _ rfl) (C.out _ (AG w _)) (by omega) (by unfold maxLen;omega) (by omega) (by simp) ?_
   intro p c2 o j l P;have t:Hid (o.ownsRow w.heap.size 62 5 (.slice p n c2) n xs/\Below w.heap.size w o):=Hd ⟨by simpa using j,(AG w _).trans (l.below (by simp))⟩;clear j l P)
 go_ret;exact⟨_,_,rfl,t.out⟩
def Lt(B:Nat)(w:World)(e:Ending)(w':World):Prop:=(∃A N C,e=.returned (.slice A N C))/\Below B w w'
def RP{size g:Nat}(h:w.ownsRow base e size (.slice (some ⟨g,0,none⟩) n c) n xs):n<=c/\c<=maxLen:=by
 rcases Bi h with⟨e,_⟩|⟨b,l,e,_,_,i,j,_⟩
 ·cases e
 ·cases e;exact⟨i,j⟩
def NA{size g:Nat}(h:w.ownsRow base e size (.slice (some ⟨g,0,none⟩) n c) n xs):∃i,Ah w g e i/\i.size=c*size:=by
 rcases h.2 with⟨j,_⟩|⟨p,cap,i,j,t,l,C,I,o,J⟩
 ·cases j
 ·cases j
  exact⟨i,l,o⟩
def aL{B T:Nat}(l:w.ownsRow B 62 5 (.slice A 0 c) 0 xs)(j:B<=w.heap.size)(t:AY w (.slice (some ⟨T,0,none⟩) 1 1) 1 5 us) :
  Calls Tryz.prog 70 #[.slice A 0 c,.int .i64 0,.slice (some ⟨T,0,none⟩) 1 1] w (Lt B w):=by
 have P:=Hd l;have R:=Hd t;have a0:=Ib;rcases Bi l with⟨p,-⟩|⟨g,c',p,h1,h2,h3,h4,-⟩
 ·cases p
  clear l t;go_enter func70,ntmps70
  go_wp2_with (
   at_builtin;refine Dc Ib (.tmp 23) (.tmp 24) rfl rfl (base:=B) (n:=0) (m:=1) (N:=1) (xs:=xs) (news:=us) rfl rfl P.out R.out rfl (by unfold maxLen;omega) (by omega) j ?_
   intro U c2 J C i I;have o:Hid (Below B w J):=Hd (i.below j);clear C i I)
  go_ret;exact⟨⟨_,_,_,rfl⟩,o.out⟩
 ·cases p
  clear l t;go_enter func70,ntmps70
  go_wp2_with (
   at_builtin;refine Dc Ib (.tmp 23) (.tmp 24) rfl rfl (base:=B) (n:=0) (m:=1) (N:=1) (xs:=xs) (news:=us) rfl rfl P.out R.out rfl (by unfold maxLen;omega) (by omega) j ?_
   intro U c2 J C i I;have o:Hid (Below B w J):=Hd (i.below j);clear C i I)
  all_goals go_ret
  all_goals exact⟨⟨_,_,_,rfl⟩,o.out⟩
def LJ:Tryz.prog.underlying 22=some (.slice 62):=underlying22
theorem Mh:(Tryz.prog.info? 62).map (·.size)=some 5:=by
 have:=Tryz.TA;cases h:Tryz.prog.info? 62 with
 | none=>rw[h]at this;cases this
 | some i=>rw[h]at this;simp at this ⊢;exact this.2.1
def aP{B i g:Nat}{C:Array Value}(l:w.ownsRow B 62 5 (.slice (some ⟨g,0,none⟩) n c) n xs)(T:∀x∈xs,x.oneCell'=true)(hB:B<=w.heap.size)(hv:AY w (.slice (some ⟨i,0,none⟩) 1 1) 1 5 us)(o:Ah w i 62 C)(a0:i≠g)(ad:B<=i)
  (aj:0<n) (hn:n<=1048576) (ao:n+1<=c) :
  Calls Tryz.prog 70 #[.slice (some ⟨g,0,none⟩) n c,.int .i64 0,.slice (some ⟨i,0,none⟩) 1 1] w (Lt B w):=by
 have a9:=RP l;obtain⟨J,P,U⟩:=NA l;have aa:∀R I,(callFunc 94 #[.slice (some ⟨i,0,none⟩) 1 1,.slice (some ⟨g,5,none⟩) R I]).run Tryz.prog w=.ok (.value (.bool false)) w:=fun R I=>by
  rw[run_callFunc_extern func94 (by kernel_rfl) (by kernel_rfl) (by kernel_rfl) (e:=Extern.SlicesOverlaps.overlaps #[22,22] #[4]) (by kernel_rfl),
   Lib.run_overlaps_apart w 22 4 62 LJ 5 (fun _=>by kernel_rfl) ⟨i,0,none⟩ ⟨g,5,none⟩ 1 1 R I a0 62 62 C.size J.size ?_ ?_ (by rw[U];omega) (o.frozen 0) (o.frozen C.size)]
  ·rfl
  ·simp[World.shape?,show w.heap[i]?=some (.cells C 62 (0,0)) from o]
  ·simp[World.shape?,show w.heap[g]?=some (.cells J 62 (0,0)) from P]
 have a1:=AY.own l T;have HG:=Hd P;have a6:=Hd o;have a4:=Hd a1;have HV:=Hd hv;have ai:B<=g:=by
  rcases Bi l with⟨e,_⟩|⟨b,c',e,h,_⟩
  ·cases e
  ·cases e;exact h
 have ak:¬((0:Int)=(n:Int)):=by omega
 have al:((n:Int)==0)=false:=by simp;omega
 have an:((0:Int)==(n:Int))=false:=by simp;omega
 have aq:IntKind.i64.wrap ((n:Int)+1)=(n:Int)+1:=by rw[IntKind.wrap_i64];omega
 have ar:IntKind.i64.wrap (1:Int)=1:=by decide
 have au:(1:Int)<=(n:Int)+1:=by omega
 have av:(0:Int)<=(n:Int)+1:=by omega
 have aw:(0:Int)<=1:=by decide
 have ag:¬(c=1):=by omega
 have ah:¬(c=0):=by omega
 have ae:=Ib;obtain⟨af,a8⟩:=a9;unfold maxLen at a8;clear l P a1 hv o T;go_enter func70,ntmps70
 go_wp2_with (simp only[aa])
 go_region_law (first
  | (
    refine TJ ?_ (.tmp 73) (.tmp 76) 22 22 ?_ 62 5 g 5 n (c-1) (some ⟨g,0,none⟩) (n+1) c n c J 62 xs ?_ ?_ LJ Mh ?_ ?_ ?_ ?_ ?_
    ·rfl
    ·rfl
    ·simp[Act.eval,Act.put]
    ·simp[Act.eval,Act.put]
    ·exact HG.out
    ·simp only[Nat.min_def];split<;>omega
    ·exact a4.out
    ·rw[U];omega
    intro w2 a7 j p t;have HK:=Hd (show Aj (·=g) w w2 from ((Aj.refl _ w).drew).next j);have a2:=Hd p;have a5:=Hd (HV.out.BP (w':=w2) (fun a ha=>j.block a (by
     have:a=i:=by cases ha;rfl
     subst this;exact a6.out.lt) (by
     have:a=i:=by cases ha;rfl
     subst this;exact a0)))
    have ax:=t;clear j p t))
 all_goals
  go_wp2_with (
      refine UC rfl (.tmp 80) (.tmp 81) 22 22 rfl 62 5 g 0 (n+1) c (some ⟨i,0,none⟩) 1 1 1 1 a7 62 us (by simp[Act.eval]) (by simp[Act.eval]) LJ Mh a2.out (by simp only[Nat.min_def];split<;>omega) a5.out (by omega) ?_;intro w3 ab j p t;have a3:=Hd (HK.out.next j);clear j p t)
  go_ret;exact⟨⟨_,_,_,rfl⟩,a3.out.below hB (fun k hk h=>by omega)⟩
def XN{B j g:Nat}{an:Array Value}(t:w.ownsRow B 62 5 (.slice (some ⟨g,0,none⟩) n c) n xs)(T:∀x∈xs,x.oneCell'=true)(U:B<=w.heap.size)(hv:AY w (.slice (some ⟨j,0,none⟩) 1 1) 1 5 us)(a4:Ah w j 62 an)
  (b0:0<n) (hn:n<=1048576) (aj:c<n+1) :
  Calls Tryz.prog 70 #[.slice (some ⟨g,0,none⟩) n c,.int .i64 0,.slice (some ⟨j,0,none⟩) 1 1] w (Lt B w):=by
 obtain⟨au,ag⟩:=RP t;have a2:=AY.own t T;have ai:g<w.heap.size:=(NA t).elim fun _ h=>h.1.lt
 obtain⟨al,hi,a5,ak,a6⟩:=info_parts Tryz.TA;have P:(Builtin.append_ #[22,3] 22 #[.slice (some ⟨g,0,none⟩) 0 c,.int .i64 ((n:Int)+1)]).run Tryz.prog w=_:=YZ (P:=Tryz.prog) w 22 3 22 62 al (.agg #[.int .i64 0,.string ⟨#[]⟩,.string ⟨#[]⟩,.slice none 0 0,.slice none 0 0]) .i64 .i64 underlying22 underlying3 hi a5 ⟨g,0,none⟩ (n+1) c aj (by omega) (by omega) (by rw[a6];omega);have ay:=grownCap_ge w (n+1) c 62;have ah:grownCap w (n+1) c 62<=maxLen:=grownCap_le_maxLen w (n+1) c 62 (by unfold maxLen;omega);generalize grownCap w (n+1) c 62=cap at *;have ar:(Builtin.zeroCells (Value.agg #[.int .i64 0,.string ⟨#[]⟩,.string ⟨#[]⟩,.slice none 0 0,.slice none 0 0]).cells (n+1)++Builtin.zeroCells (Value.agg #[.int .i64 0,.string ⟨#[]⟩,.string ⟨#[]⟩,.slice none 0 0,.slice none 0 0]).cells (cap-(n+1))).size=cap*5:=by simp[Builtin.zeroCells,Value.cells];omega
 generalize Builtin.zeroCells (Value.agg #[.int .i64 0,.string ⟨#[]⟩,.string ⟨#[]⟩,.slice none 0 0,.slice none 0 0]).cells (n+1)++Builtin.zeroCells (Value.agg #[.int .i64 0,.string ⟨#[]⟩,.string ⟨#[]⟩,.slice none 0 0,.slice none 0 0]).cells (cap-(n+1))=l at *;obtain⟨W,o⟩:∃W,w.drew.alloc (.cells l 62)=W:=⟨_,rfl⟩
 rw[o]at P;have a0:Ah W w.heap.size 62 l:=by rw[<-o];exact Ah.new w.drew 62 l
 have p:Below w.heap.size w W:=by rw[<-o];exact(AG w _).drew
 have a3:=hv.BP (w':=W) (fun a ha=>p.block a (by
  have:a=j:=by cases ha;rfl
  subst this;exact a4.lt))
 have a1:=a2.BP (w':=W) (fun a ha=>p.block a (by
  have:a=g:=by cases ha;rfl
  subst this;exact ai))
 have HR:=Hd P;have a8:=Hd a0;have J:=Hd p;have ae:=Hd a3;have ad:=Hd a1;have b1:¬((0:Int)=(n:Int)):=by omega
 have b2:((n:Int)==0)=false:=by simp;omega
 have b3:((0:Int)==(n:Int))=false:=by simp;omega
 have b4:IntKind.i64.wrap ((n:Int)+1)=(n:Int)+1:=by rw[IntKind.wrap_i64];omega
 have b5:IntKind.i64.wrap (1:Int)=1:=by decide
 have b6:(1:Int)<=(n:Int)+1:=by omega
 have b7:(0:Int)<=(n:Int)+1:=by omega
 have b8:(0:Int)<=1:=by decide
 have av:¬(cap=1):=by omega
 have aw:¬(cap=0):=by omega
 have ax:¬(c=0):=by omega
 have aq:=Ib;have az:w.heap.size≠g:=by omega
 unfold maxLen at ag ah;clear t hv a4 T a2 P a0 p a3 a1 o hi a5 ak a6;go_enter func70,ntmps70
 go_wp2_with (first
  | (at_builtin;refine Lib.wpList_append_run _ rfl _ _ _ _ rfl _ _ (by simp[Act.eval]) (by simp[Act.eval]) _ _ HR.out ?_)
  | (
   refine UC rfl (.tmp 43) (.tmp 44) 22 22 rfl 62 5 w.heap.size 0 (n+1) cap (some ⟨j,0,none⟩) 1 1 1 1 l 62 us (by simp[Act.eval]) (by simp[Act.eval]) LJ Mh a8.out (by simp only[Nat.min_def];split<;>omega) ae.out (by omega) ?_;intro R af i C I;have a9:=Hd i;have a7:=Hd C;have b9:=I;have ab:=Hd (ad.out.BP (w':=R) (fun a ha=>i.block a (by
    have h2:=J.out.size;have:a=g:=by cases ha;rfl
    omega) (by
    have:a=g:=by cases ha;rfl
    omega)))
   clear i C I))
 go_region_law (first
  | (
   refine TJ ?_ (.tmp 50) (.tmp 53) 22 22 ?_ 62 5 w.heap.size 5 n (cap-1) (some ⟨g,0,none⟩) n c n c af 62 xs ?_ ?_ LJ Mh ?_ ?_ ?_ ?_ ?_
   ·rfl
   ·rfl
   ·simp[Act.eval,Act.put]
   ·simp[Act.eval,Act.put]
   ·exact a7.out
   ·simp only[Nat.min_def];split<;>omega
   ·exact ab.out
   ·omega
   intro w4 ao i C I;have aa:=Hd (show Aj (·=w.heap.size) R w4 from ((Aj.refl _ R).drew).next i);clear i C I))
 all_goals
  go_wp2;go_ret;exact⟨⟨_,_,_,rfl⟩,(J.out.mono U).trans ((a9.out.next aa.out).below (AW U J.out.size) (fun k hk h=>by omega))⟩
theorem Z1{B i:Nat}{R:Array Value}(j:w.ownsRow B 62 5 (.slice A n c) n xs)(p:∀x∈xs,x.oneCell'=true)(l:B<=w.heap.size)(o:AY w (.slice (some ⟨i,0,none⟩) 1 1) 1 5 us)(C:Ah w i 62 R)
  (P:∀g,A=some ⟨g,0,none⟩->i≠g) (I:B<=i) (t:n<=1048576):Calls Tryz.prog 70 #[.slice A n c,.int .i64 0,.slice (some ⟨i,0,none⟩) 1 1] w (Lt B w):=by
 cases n with
 | zero=>exact aL j l o
 | succ n=>
  rcases Bi j with⟨-,e⟩|⟨g,T,e,-⟩
  ·cases e
  ·cases e
   by_cases J:n+1+1<=c
   ·exact aP j p l o C (P g rfl) I (by omega) t J
   ·exact XN j p l o C (by omega) t (by omega)
end Go.Proofs.YtlogpnoioimhjaaGreatDoor
