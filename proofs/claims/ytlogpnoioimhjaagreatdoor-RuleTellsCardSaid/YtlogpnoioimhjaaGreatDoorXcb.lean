/- A word as it lies. -/
import Derived.Test.YtlogpnoioimhjaaGreatDoorXca
import Derived.IntWalk
set_option linter.all false
set_option maxRecDepth 100000
set_option maxHeartbeats 16000000
namespace Go.Proofs.YtlogpnoioimhjaaGreatDoor
open Go.RowKit Go.Proofs.Tryz
variable{v:Value}
structure EX(w:World)(A:Option Addr)(n c:Nat)(k:Int)(s:ByteArray):Prop where
 B7:n<=1000
 cap:n<=c/\c<=maxLen
 len:s.size<=9223372036854775807
 at_:∀m,n=m+1->∃b off ad xs,A=some ⟨b,off,none⟩/\b<w.heap.size/\w.cell? ⟨b,off,none⟩=some (.int .i64 k)/\w.cell? ⟨b,off+1,none⟩=some (.string s) /\
  (if c=1 then some (⟨b,off,none⟩:Addr) else some ⟨b,off+5,none⟩)=some ad/\(∀u∈xs,u.oneCell'=true)/\∀y,Below w.heap.size w y->AY y (.slice (some ad) m (c-1)) m 5 xs
def EX.later{w w':World}{A:Option Addr}{n c:Nat}{k:Int}{s:ByteArray}(h:EX w A n c k s)(i:Below w.heap.size w w'):EX w' A n c k s:=
 ⟨h.B7,h.cap,h.len,fun m P=>by obtain⟨b,off,l,T,o,j,p,t,C,I,J⟩:=h.at_ m P;exact⟨b,off,l,T,o,Ba j i.size,(i.cell (p:=⟨b,off,none⟩) j).trans p,(i.cell (p:=⟨b,off+1,none⟩) j).trans t,C,I,fun y R=>J y (i.trans (R.mono i.size))⟩⟩
def Hw(n:Nat)(k:Int):Bool:=decide (n=1/\k=1)
def IW(n:Nat)(k:Int)(s:ByteArray):Bool:=decide (n≠0/\k=1/\0<=DQ s)
def Jt(n:Nat)(k:Int)(s:ByteArray):Value:=.tuple #[.string (if Hw n k then s else⟨#[]⟩),.bool (Hw n k)]
def SU(w:World)(b:Bool)(e:Ending)(w':World):Prop:=(∃x A N C,e=.returned (.tuple #[.string x,.agg #[.slice A N C],.bool b]))/\Below w.heap.size w w'
def Ii{fn:Func}{t p u:Tmp}{ty:TypeId}{P:Program}{w:World}{tmps:Array Value}{a:Addr}(h:fn.results=#[.tmp t,.cell p ty,.tmp u])(i:tmps.getD p undef=.pointer (some a))(j:(loadVar ty a).run P w=.ok v w) :
  (results fn tmps).run P w=.ok (.tuple #[tmps.getD t undef,v,tmps.getD u undef]) w:=by
 rw[Array.getD_eq_getD_getElem?]at i;simp only[results,h];simp[Result.andThen,i,asAddr,j]
def Ij{y:World}{b:Nat}{A:Option Addr}{N C:Nat}(h:y.cell? ⟨b,0,none⟩=some (.slice A N C)):(loadVar 24 ⟨b,0,none⟩).run Tryz.prog y=.ok (.agg #[.slice A N C]) y:=by simp[go_sem,h]
def T6(w:World)(s:ByteArray):AY (w.alloc (.cells #[.int .i64 1,.string s,.string ⟨#[]⟩,.slice none 0 0,.slice none 0 0] 62)) (.slice (some ⟨w.heap.size,0,none⟩) 1 1) 1 5 [.int .i64 1,.string s,.string ⟨#[]⟩,.slice none 0 0,.slice none 0 0]:=
 AY.Ap (c:=1) (cs:=[.int .i64 1,.string s,.string ⟨#[]⟩,.slice none 0 0,.slice none 0 0]) (Ah.new w 62 _) rfl (fun x i=>by simp at i;rcases i with rfl|rfl|rfl|rfl<;>rfl)
theorem cY{w:World}{A:Option Addr}{n c:Nat}{k:Int}{s:ByteArray}(h:EX w A n c k s):Calls Tryz.prog 42 #[.agg #[.slice A n c]] w (SU w (IW n k s)):=by
 cases n with
 | zero=>
  clear h;go_enter func42,ntmps42
  go_wp2;refine bodyPost_ret (Ii rfl rfl (Ij (b:=w.heap.size+1) (A:=none) (N:=0) (C:=0) ?_)) rfl ?_
  ·simp
  ·exact⟨⟨_,_,_,_,rfl⟩,(AG w _).alloc (by simp) _⟩
 | succ m=>
  obtain⟨b,off,ad,xs,rfl,ar,c0,c1,aq,ai,hT⟩:=h.at_ m rfl;have aw:=h.B7;have b0:=h.cap;have k2:=h.len;have HT:=Hd hT;have ak:=Hd ai;have a6:=Ra s;unfold IW;clear h hT ai;have az:(0:Int)<(m:Int)+1:=by omega
  have ao:¬((m:Int)+1=0):=by omega
  have ax:(((m:Int)+1)==0)=false:=by simpa using ao
  have b1:IntKind.i64.wrap (1:Int)=1:=by decide
  have b2:(1:Int)<=(m:Int)+1:=by omega
  by_cases ab:k=1
  ·subst ab
   have R:=Hd (Yq s k2);by_cases ah:DQ s<0
   ·have af:DQ s = -1:=by omega
    rw[decide_eq_false (by omega)];rw[af]at R;clear a6 ah af;go_enter func42,ntmps42
    go_wp2_with (
          go_at_call 68;refine(R.out _).mono ?_;rintro e l ⟨rfl,j⟩
          have o:Ah l w.heap.size 24 #[.slice (some ⟨b,off,none⟩) (m+1) c]:=((Ah.new w 24 _).alloc _).below j (by simp;omega);have i:Ah l (w.heap.size+1) 24 #[.slice none 0 0]:=by have:=Ah.new (w.alloc (.cells #[.slice (some ⟨b,off,none⟩) (m+1) c] 24)) 24 #[.slice none 0 0];rw[World.size_alloc]at this;exact this.below j (by simp)
          have I:Below w.heap.size w l:=((AG w _).alloc (by simp) _).trans (j.mono (by simp;omega));have U:=o.cell 0;have d1:=i.cell 0;have f1:=i.frozen 0;have a1:=i.lt;simp at U d1;have aa:=Hd o;have T:=Hd i;have J:=Hd I;clear o i I j)
    refine bodyPost_ret (Ii rfl rfl (Ij (b:=w.heap.size+1) (A:=none) (N:=0) (C:=0) ?_)) rfl ?_
    ·have:=(T.out.Be 0 (.slice none 0 0)).cell 0
     simpa using this
    ·exact⟨⟨_,_,_,_,rfl⟩,J.out.setCell (p:=⟨w.heap.size+1,0,none⟩) (by simp) _⟩
   ·obtain⟨p,ae⟩:∃p:Nat,DQ s=p:=⟨(DQ s).toNat,by omega⟩
    rw[decide_eq_true (by omega)];rw[ae]at R a6;have au:p<s.size:=by omega
    have ay:¬((p:Int)<0):=by omega
    have a9:Hid (∀y,Below w.heap.size w y->Calls Tryz.prog 69 #[.slice (some ad) m (c-1)] y fun e w'=>∃A c,e=.returned (.slice A m c)/\w'.ownsRow y.heap.size 62 5 (.slice A m c) m xs/\Below y.heap.size y w'):=Hd (fun y hy=>cO (fun z hz=>HT.out z (hy.trans (hz.mono hy.size))) (by omega))
    clear ah ae a6;go_enter func42,ntmps42
    by_cases av:p+1<s.size
    ·have an:(p:Int)+1<(s.size:Int):=by omega
     have b3:IntKind.i64.wrap ((p:Int)+1)=(p:Int)+1:=by rw[IntKind.wrap_i64];omega
     go_wp2_with (first
      | (
        go_at_call 68;refine(R.out _).mono ?_;rintro e l ⟨rfl,j⟩
        have o:Ah l w.heap.size 24 #[.slice (some ⟨b,off,none⟩) (m+1) c]:=((Ah.new w 24 _).alloc _).below j (by simp;omega);have i:Ah l (w.heap.size+1) 24 #[.slice none 0 0]:=by have:=Ah.new (w.alloc (.cells #[.slice (some ⟨b,off,none⟩) (m+1) c] 24)) 24 #[.slice none 0 0];rw[World.size_alloc]at this;exact this.below j (by simp)
        have I:Below w.heap.size w l:=((AG w _).alloc (by simp) _).trans (j.mono (by simp;omega));have U:=o.cell 0;have d1:=i.cell 0;have f1:=i.frozen 0;have a1:=i.lt;simp at U d1;have aa:=Hd o;have T:=Hd i;have J:=Hd I;clear o i I j)
      | (
        go_at_call 69;refine(a9.out _ J.out).mono ?_;rintro e P ⟨A2,c2,rfl,a0,t⟩
        have C:=T.out.below t a1;have d3:=C.cell 0;have f3:=C.frozen 0;have a8:=t.size;simp at d3;have a5:=Hd C;have a4:=Hd a0;have a3:=Hd t;clear C a0 t))
     have ag:Calls Tryz.prog 70 #[.slice A2 m c2,.int .i64 0,.slice (some ⟨P.heap.size,0,none⟩) 1 1] (P.alloc (.cells #[.int .i64 1,.string (s.extract (p+1) s.size),.string ⟨#[]⟩,.slice none 0 0,.slice none 0 0] 62)) (Lt l.heap.size _):=
      Z1 (us:=[.int .i64 1,.string (s.extract (p+1) s.size),.string ⟨#[]⟩,.slice none 0 0,.slice none 0 0]) (a4.out.alloc _) ak.out (by simp;omega) (T6 _ _) (Ah.new P 62 _) (fun g hg=>by
       subst hg;have:g<P.heap.size:=(NA a4.out).elim fun _ h=>h.1.lt
       omega) a8 (by omega)
     refine ag.mono ?_;rintro e w5 ⟨⟨A5,N5,C5,rfl⟩,a7⟩;have a2:=(a5.out.alloc _).below a7 a1;have d5:=a2.cell 0;have f5:=a2.frozen 0;simp at d5;have al:=Hd a2;have aj:Hid (Below l.heap.size l w5):=Hd ((a3.out.trans ((AG P _).mono a8)).trans a7);clear a2 a7 ag;go_wp2;refine bodyPost_ret (Ii rfl rfl (Ij (b:=w.heap.size+1) (A:=A5) (N:=N5) (C:=C5) ?_)) rfl ?_
     ·have:=(al.out.Be 0 (.slice A5 N5 C5)).cell 0
      simpa using this
     ·exact⟨⟨_,_,_,_,rfl⟩,(J.out.trans (aj.out.mono (by omega))).setCell (p:=⟨w.heap.size+1,0,none⟩) (by simp) _⟩
    ·have an:¬((p:Int)+1<(s.size:Int)):=by omega
     go_wp2_with (first
      | (
        go_at_call 68;refine(R.out _).mono ?_;rintro e l ⟨rfl,j⟩
        have o:Ah l w.heap.size 24 #[.slice (some ⟨b,off,none⟩) (m+1) c]:=((Ah.new w 24 _).alloc _).below j (by simp;omega);have i:Ah l (w.heap.size+1) 24 #[.slice none 0 0]:=by have:=Ah.new (w.alloc (.cells #[.slice (some ⟨b,off,none⟩) (m+1) c] 24)) 24 #[.slice none 0 0];rw[World.size_alloc]at this;exact this.below j (by simp)
        have I:Below w.heap.size w l:=((AG w _).alloc (by simp) _).trans (j.mono (by simp;omega));have U:=o.cell 0;have d1:=i.cell 0;have f1:=i.frozen 0;have a1:=i.lt;simp at U d1;have aa:=Hd o;have T:=Hd i;have J:=Hd I;clear o i I j)
      | (
        go_at_call 69;refine(a9.out _ J.out).mono ?_;rintro e P ⟨A2,c2,rfl,a0,t⟩
        have C:=T.out.below t a1;have d3:=C.cell 0;have f3:=C.frozen 0;have a8:=t.size;simp at d3;have a5:=Hd C;have a4:=Hd a0;have a3:=Hd t;clear C a0 t))
     refine bodyPost_ret (Ii rfl rfl (Ij (b:=w.heap.size+1) (A:=A2) (N:=m) (C:=c2) ?_)) rfl ?_
     ·have:=(a5.out.Be 0 (.slice A2 m c2)).cell 0
      simpa using this
     ·exact⟨⟨_,_,_,_,rfl⟩,(J.out.trans (a3.out.mono (by omega))).setCell (p:=⟨w.heap.size+1,0,none⟩) (by simp) _⟩
  ·have hq:(k==1)=false:=by simpa using ab
   rw[decide_eq_false (by omega)];go_enter func42,ntmps42
   go_wp2;refine bodyPost_ret (Ii rfl rfl (Ij (b:=w.heap.size+1) (A:=none) (N:=0) (C:=0) ?_)) rfl ?_
   ·simp
   ·exact⟨⟨_,_,_,_,rfl⟩,(AG w _).alloc (by simp) _⟩
def UZ{w:World}{A:Option Addr}{n c:Nat}{k:Int}{s:ByteArray}(h:EX w A n c k s):Calls Tryz.prog 22 #[.agg #[.slice A n c]] w fun e w'=>e=.returned (Jt n k s)/\Below w.heap.size w w':=by
 unfold Jt Hw;by_cases j:n=1
 ·subst j
  obtain⟨b,off,o,C,rfl,t,p,c1,-,-,-⟩:=h.at_ 0 rfl;clear h;by_cases i:k=1
  ·subst i
   go_enter func22,ntmps22
   go_wp2
   go_ret2
   exact⟨rfl,AG _ _⟩
  ·have l:(k==1)=false:=by simpa using i
   rw[decide_eq_false (by omega)];go_enter func22,ntmps22
   go_wp2
   go_ret2
   exact⟨rfl,AG _ _⟩
 ·have l:((n:Int)==1)=false:=by simp;omega
  rw[decide_eq_false (by omega)];clear h;go_enter func22,ntmps22
  go_wp2
  go_ret2
  exact⟨rfl,AG _ _⟩
theorem Vk{w:World}{A:Option Addr}{n c:Nat}{k:Int}{s:ByteArray}(h:EX w A n c k s):Calls Tryz.prog 55 #[.agg #[.slice A n c]] w (SU w (IW n k s)):=by
 cases n with
 | zero=>
  clear h;go_enter func55,ntmps55
  go_wp2;refine bodyPost_ret (Ii rfl rfl (Ij (b:=w.heap.size+1) (A:=none) (N:=0) (C:=0) ?_)) rfl ?_
  ·simp
  ·exact⟨⟨_,_,_,_,rfl⟩,(AG w _).alloc (by simp) _⟩
 | succ m=>
  obtain⟨b,off,ad,xs,rfl,ay,c0,c1,ax,aj,hT⟩:=h.at_ m rfl;have b1:=h.B7;have b5:=h.cap;have k2:=h.len;have HT:=Hd hT;have aw:=Hd aj;have a7:=Ra s;unfold IW;clear h hT aj;have b4:(0:Int)<(m:Int)+1:=by omega
  have ar:¬((m:Int)+1=0):=by omega
  have b2:(((m:Int)+1)==0)=false:=by simpa using ar
  have b6:IntKind.i64.wrap (1:Int)=1:=by decide
  have b7:(1:Int)<=(m:Int)+1:=by omega
  by_cases af:k=1
  ·subst af
   have J:=Hd (Xb s k2);by_cases ai:DQ s<0
   ·have ah:DQ s = -1:=by omega
    rw[decide_eq_false (by omega)];rw[ah]at J;clear a7 ai ah;go_enter func55,ntmps55
    go_wp2_with (go_at_call 77;refine(J.out _).mono ?_;rintro e w1 ⟨rfl,T⟩;subst T)
    refine bodyPost_ret (Ii rfl rfl (Ij (b:=w.heap.size+1) (A:=none) (N:=0) (C:=0) ?_)) rfl ?_
    ·simp
    ·exact⟨⟨_,_,_,_,rfl⟩,(AG w _).alloc (by simp) _⟩
   ·obtain⟨i,ag⟩:∃i:Nat,DQ s=i:=⟨(DQ s).toNat,by omega⟩
    rw[decide_eq_true (by omega)];rw[ag]at J a7;have az:i<s.size:=by omega
    have b3:¬((i:Int)<0):=by omega
    clear ai ag a7;go_enter func55,ntmps55
    obtain⟨l,p⟩:∃l,(w.alloc (.cells #[.slice (some ⟨b,off,none⟩) (m+1) c] 24)).alloc (.cells #[.slice none 0 0] 24)=l:=⟨_,rfl⟩
    have ae:Below w.heap.size w l:=by rw[<-p];exact(AG w _).alloc (by simp) _
    have au:l.heap.size=w.heap.size+2:=by rw[<-p];simp
    have a8:Ah l w.heap.size 24 #[.slice (some ⟨b,off,none⟩) (m+1) c]:=by rw[<-p];exact(Ah.new w 24 _).alloc _
    have a2:Ah l (w.heap.size+1) 24 #[.slice none 0 0]:=by rw[<-p];have:=Ah.new (w.alloc (.cells #[.slice (some ⟨b,off,none⟩) (m+1) c] 24)) 24 #[.slice none 0 0];rwa [World.size_alloc]at this
    have d0:=a8.cell 0;have d1:=a2.cell 0;have f1:=a2.frozen 0;simp at d0 d1;have a9:=Hd ae;have an:=Hd a8;have ab:=Hd a2;have aa:=Hd p;clear p a8 a2 ae;by_cases b0:i+1<s.size
    ·have aq:(i:Int)+1<(s.size:Int):=by omega
     have b8:IntKind.i64.wrap ((i:Int)+1)=(i:Int)+1:=by rw[IntKind.wrap_i64];omega
     have av:IntKind.i64.wrap (i:Int)=(i:Int):=by rw[IntKind.wrap_i64];omega
     have ao:(i:Int)<=(s.size:Int):=by omega
     go_wp2_with (first
      | (go_at_call 77;rw[aa.out];refine(J.out _).mono ?_;rintro e w1 ⟨rfl,T⟩;subst T)
      | (
        at_builtin;refine Dc Ib (.tmp 36) (.tmp 42) rfl rfl (base:=w.heap.size+2) (n:=0) (m:=1) (N:=1) (v:=.slice none 0 0) (src:=.slice (some ⟨w.heap.size+2,0,none⟩) 1 1) (xs:=[]) (news:=[.int .i64 1,.string (s.extract (i+1) s.size),.string ⟨#[]⟩,.slice none 0 0,.slice none 0 0]) rfl rfl (World.ownsRow_nil _ _ _ _) (by have:=T6 l (s.extract (i+1) s.size);rw[au]at this;exact this) rfl (by unfold maxLen;omega) (by omega) (by simp;omega) ?_
        intro A8 c8 w8 t o U;have R:Below l.heap.size l w8:=(AG l _).trans ((o.below (by simp;omega)).mono (by omega));have ak:=an.out.below R (by omega);have j:=ab.out.below R (by omega);have I:Hid (Below w.heap.size w w8):=Hd (a9.out.trans (R.mono (by omega)));have a0:=ak.cell 0;have a1:=j.cell 0;have g1:=j.frozen 0;simp at a0 a1;have a6:=Hd j;have al:=Hd t;have a4:=Hd (HT.out w8 I.out);have b9:=R.size;clear t o U R ak j))
     go_region_law (first
      | (
        refine EG Ib (.tmp 47) (.tmp 50) ?_ ?_ (base:=w.heap.size+2) (n:=1) (m:=m) (N:=1+m) (v:=.slice A8 1 c8) (src:=.slice (some ad) m (c-1)) (xs:=[.int .i64 1,.string (s.extract (i+1) s.size),.string ⟨#[]⟩,.slice none 0 0,.slice none 0 0]) (news:=xs) ?_ ?_ ?_ ?_ ?_ ?_ ?_ ?_ ?_
        ·rfl
        ·rfl
        ·rfl
        ·rfl
        ·exact al.out
        ·exact a4.out
        ·omega
        ·unfold maxLen;omega
        ·omega
        ·exact(show w.heap.size+2<=w8.heap.size by omega)
        intro C P w9 t o U;have j:=o.Ap (g:=w.heap.size+1) (t:=24) (cs:=#[.slice none 0 0]) a6.out (.inl (by omega));have d9:=j.cell 0;have f9:=j.frozen 0;simp at d9;have a5:=Hd j;have a3:Hid (Below w.heap.size w w9):=Hd (I.out.trans (((Below.refl w.heap.size _).drew).trans ((o.below (show w.heap.size+2<=w8.heap.size by omega)).mono (by omega))));clear t o U j))
     all_goals go_wp2
     all_goals
      refine bodyPost_ret (Ii rfl rfl (Ij (b:=w.heap.size+1) (A:=C) (N:=1+m) (C:=P) ?_)) rfl ?_
      ·have:=(a5.out.Be 0 (.slice C (1+m) P)).cell 0
       simpa using this
      ·exact⟨⟨_,_,_,_,rfl⟩,a3.out.setCell (p:=⟨w.heap.size+1,0,none⟩) (by simp) _⟩
    ·have aq:¬((i:Int)+1<(s.size:Int)):=by omega
     have av:IntKind.i64.wrap (i:Int)=(i:Int):=by rw[IntKind.wrap_i64];omega
     have ao:(i:Int)<=(s.size:Int):=by omega
     go_wp2_with (go_at_call 77;rw[aa.out];refine(J.out _).mono ?_;rintro e w1 ⟨rfl,T⟩;subst T)
     have a6:=ab;have I:=a9;have a4:=Hd (HT.out l I.out);go_region_law (first
      | (
        refine EG Ib (.tmp 47) (.tmp 50) ?_ ?_ (base:=w.heap.size+2) (n:=0) (m:=m) (N:=m) (v:=.slice none 0 0) (src:=.slice (some ad) m (c-1)) (xs:=[]) (news:=xs) ?_ ?_ ?_ ?_ ?_ ?_ ?_ ?_ ?_
        ·rfl
        ·rfl
        ·rfl
        ·rfl
        ·exact World.ownsRow_nil _ _ _ _
        ·exact a4.out
        ·omega
        ·unfold maxLen;omega
        ·omega
        ·exact(show w.heap.size+2<=l.heap.size by omega)
        intro C P w9 t o U;have j:=o.Ap (g:=w.heap.size+1) (t:=24) (cs:=#[.slice none 0 0]) a6.out (.inl (by omega));have d9:=j.cell 0;have f9:=j.frozen 0;simp at d9;have a5:=Hd j;have a3:Hid (Below w.heap.size w w9):=Hd (I.out.trans (((Below.refl w.heap.size _).drew).trans ((o.below (show w.heap.size+2<=l.heap.size by omega)).mono (by omega))));clear t o U j))
     all_goals go_wp2
     all_goals
      refine bodyPost_ret (Ii rfl rfl (Ij (b:=w.heap.size+1) (A:=C) (N:=m) (C:=P) ?_)) rfl ?_
      ·have:=(a5.out.Be 0 (.slice C (m) P)).cell 0
       simpa using this
      ·exact⟨⟨_,_,_,_,rfl⟩,a3.out.setCell (p:=⟨w.heap.size+1,0,none⟩) (by simp) _⟩
  ·have hq:(k==1)=false:=by simpa using af
   rw[decide_eq_false (by omega)];go_enter func55,ntmps55
   go_wp2;refine bodyPost_ret (Ii rfl rfl (Ij (b:=w.heap.size+1) (A:=none) (N:=0) (C:=0) ?_)) rfl ?_
   ·simp
   ·exact⟨⟨_,_,_,_,rfl⟩,(AG w _).alloc (by simp) _⟩
def QA{w:World}{A:Option Addr}{n c:Nat}{k:Int}{s:ByteArray}(h:EX w A n c k s):Calls Tryz.prog 36 #[.agg #[.slice A n c]] w fun e w'=>e=.returned (Jt n k s)/\Below w.heap.size w w':=by
 unfold Jt Hw;by_cases j:n=1
 ·subst j
  obtain⟨b,off,o,C,rfl,t,p,c1,-,-,-⟩:=h.at_ 0 rfl;clear h;by_cases i:k=1
  ·subst i
   go_enter func36,ntmps36
   go_wp2
   go_ret2
   exact⟨rfl,AG _ _⟩
  ·have l:(k==1)=false:=by simpa using i
   rw[decide_eq_false (by omega)];go_enter func36,ntmps36
   go_wp2
   go_ret2
   exact⟨rfl,AG _ _⟩
 ·have l:((n:Int)==1)=false:=by simp;omega
  rw[decide_eq_false (by omega)];clear h;go_enter func36,ntmps36
  go_wp2
  go_ret2
  exact⟨rfl,AG _ _⟩
inductive G6(w:World):Value->Prop where
 | nil (A:Option Addr) (c:Nat):G6 w (.slice A 0 c)
 | row (b off n c:Nat) (k:Nat->Int) (s o:Nat->ByteArray) (kv:Nat->Value) (cv:Nat->Option Addr×Nat×Nat) (hb:b<w.heap.size) (hn:n<=9223372036854775807)
  (h0:∀i,i<n->w.cell? ⟨b,off+i*5,none⟩=some (.int .i64 (k i))) (h1:∀i,i<n->w.cell? ⟨b,off+i*5+1,none⟩=some (.string (s i))/\(s i).size<=9223372036854775807) (h2:∀i,i<n->w.cell? ⟨b,off+i*5+2,none⟩=some (.string (o i))/\(o i).size<=9223372036854775807)
  (h3:∀i,i<n->w.cell? ⟨b,off+i*5+3,none⟩=some (kv i)) (h4:∀i,i<n->w.cell? ⟨b,off+i*5+4,none⟩=some (.slice (cv i).1 (cv i).2.1 (cv i).2.2)) (hk:∀i,i<n->G6 w (kv i)):G6 w (.slice (some ⟨b,off,none⟩) n c)
def J7(d:Nat->Int->Int):Nat->Nat->Int->Int
 | 0,_,m=>m
 | r+1,k,m=>if m<=1000 then J7 d r (k+1) (d k m) else m
def MI{i w:World}(h:Below i.heap.size i w)(n:Nat):Below i.heap.size i (w.drewN n):=⟨h.os,h.tape,h.output,h.size,h.block⟩
theorem To{l:World}(h:G6 l v):∃K:Int,(∀A n c,v=.slice A n c->1000<n->200<K)/\∀w,Below l.heap.size l w->Calls Tryz.prog 7 #[v] w fun e w'=>e=.returned (.int .i64 K)/\∃d,w'=w.drewN d:=by
 induction h with
 | nil A c=>
  refine⟨0,fun A n c e h=>by cases e;omega,fun w _=>?_⟩;go_enter func7,ntmps7
  go_wp2
  go_loop [3,4] (fun n i=>n=.int .i64 0/\i=.int .i64 0) (fun _ _=>0)
  case atStart=>exact⟨rfl,rfl⟩
  case round=>obtain⟨rfl,rfl⟩:=hrel;go_wp2;go_ret;exact⟨rfl,0,rfl⟩
 | row b off n c k s a1 kv cv P hn h0 h1 h2 h3 h4 hk ih=>
  obtain⟨J,hJ⟩:∃J:Nat->Int,∀i,i<n->∀w,Below l.heap.size l w->Calls Tryz.prog 7 #[kv i] w fun e w'=>e=.returned (.int .i64 (J i))/\∃d,w'=w.drewN d:=
   ⟨fun i=>if h:i<n then Classical.choose (ih i h) else 0,fun i h=>by dsimp only;rw[dif_pos h];exact(Classical.choose_spec (ih i h)).2⟩
  obtain⟨D,hD⟩:∃D:Nat->Int->Int,∀i m,D i m=wrap64 (wrap64 (wrap64 (wrap64 (m+((s i).size:Int)/10)+((a1 i).size:Int)/10)+((cv i).2.1:Int))+J i):=⟨fun i m=>_,fun _ _=>rfl⟩
  refine⟨J7 D n 0 n,fun A n' c' e h=>?_,fun w hw=>?_⟩
  ·cases e
   obtain⟨r,rfl⟩:∃r,n=r+1:=⟨n-1,by omega⟩
   unfold J7;rw[if_neg (by omega)];omega
  have HJ:=Hd hJ;have HD:=Hd hD;have C:=Hd (And.intro h1 (And.intro h2 (And.intro h3 h4)));have HW:=Hd hw;clear hJ hD h0 h1 h2 h3 h4 hk ih hw;obtain⟨K,T⟩:∃K,J7 D n 0 n=K:=⟨_,rfl⟩
  rw[T];have HK:=Hd T;clear T;go_enter func7,ntmps7
  go_wp2;go_loopw [3,4] (fun nv i wr=>∃(k:Nat) (m:Int),k<=n/\nv=.int .i64 m/\i=.int .i64 k/\Hid (J7 D (n-k) k m=K)/\Hid (∃d,wr=w.drewN d)) (fun _ i _=>n-(intOf i).toNat)
  case atStart=>exact⟨0,n,AX _,rfl,rfl,HK,Hd ⟨0,rfl⟩⟩
  case round=>
   obtain⟨k,m,hk,rfl,rfl,o,I⟩:=hrel;by_cases p:k<n
   ·obtain⟨r,U⟩:∃r,n-k=r+1:=⟨n-k-1,by omega⟩
    have j:=o.out;rw[U]at j;unfold J7 at j;by_cases hm:m<=1000
    ·rw[if_pos hm,HD.out]at j
     have HN:Hid (n-(k+1)=r):=Hd (by omega);have t:Below l.heap.size l wr:=by obtain⟨d,rfl⟩:=I.out;exact MI HW.out d
     obtain⟨e1,z1⟩:=C.out.1 k p;obtain⟨e2,z2⟩:=C.out.2.1 k p;have e3:=C.out.2.2.1 k p;have e4:=C.out.2.2.2 k p;replace e1:=(t.cell (p:=⟨b,off+k*5+1,none⟩) P).trans e1;replace e2:=(t.cell (p:=⟨b,off+k*5+2,none⟩) P).trans e2;replace e3:=(t.cell (p:=⟨b,off+k*5+3,none⟩) P).trans e3;replace e4:=(t.cell (p:=⟨b,off+k*5+4,none⟩) P).trans e4;have a3:=Hd fun y=>HJ.out k p _ (MI t y)
     have a2:=Hd j;clear j o U;generalize s k=a0 at *;generalize a1 k=O at *;generalize J k=JK at *;generalize kv k=KV at *;generalize cv k=CV at *;have w1:IntKind.i64.wrap ((a0.size:Int)/10)=(a0.size:Int)/10:=IntWalk.i64_in _ (by omega);have w2:IntKind.i64.wrap ((O.size:Int)/10)=(O.size:Int)/10:=IntWalk.i64_in _ (by omega);go_wp2;go_quiet ((go_at_call 7;exact Calls.quiet_of (a3.out _)))
     have a4:Hid (∃d,wr.drewN nq=w.drewN d):=Hd (by obtain⟨d,hd⟩:=I.out;exact⟨d+nq,by rw[hd,World.drewN_drewN]⟩)
     go_wp2;go_roundw
     case rel=>exact⟨k+1,_,by omega,rfl,by go_num,Hd (by rw[HN.out];exact a2.out),a4⟩
     case measure=>simp[intOf];omega
    ·rw[if_neg hm]at j
     have R:=Hd j;clear j o U;go_wp2;go_ret;exact⟨by rw[R.out];rfl,I.out⟩
   ·obtain rfl:n=k:=by omega
    have j:=o.out;rw[Nat.sub_self]at j;unfold J7 at j;have R:=Hd j;clear j o;go_wp2;go_ret;exact⟨by rw[R.out];rfl,I.out⟩
end Go.Proofs.YtlogpnoioimhjaaGreatDoor
