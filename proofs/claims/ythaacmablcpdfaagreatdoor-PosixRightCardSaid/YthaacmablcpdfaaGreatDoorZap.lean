/- Tokens of a grammar's text. Tokens of a grammar's text. The reader's small steps. The reader. The reader. The reader. The reader. The reader. -/
import Derived.Test.YthaacmablcpdfaaGreatDoorZaf
import Derived.Lib.IndexMore
import Derived.Test.YthaacmablcpdfaaGreatDoorZad
import Derived.Deep.RegionLaw
import Derived.Deep.LoopGhost
import Derived.BigRegion
import Derived.RegionDies
import Derived.Maps.Own
import Derived.Maps.OwnOps
import Derived.Maps.OwnSet
import Derived.Maps.Views
import Derived.StringKeys
import Derived.Test.YthaacmablcpdfaaGreatDoorNm
namespace Go.Proofs.YthaacmablcpdfaaGreatDoor
open Go.RowKit
set_option linter.unusedVariables false
theorem PairEnd.one{w:World}{r:Except Flt (Nat×Nat)}{e:Ending}{w':World}(h:PairEnd w r e w'):∃(n:Int) (v:Value),e=.returned (.tuple #[.int .i64 n,v]) ∧
  ∀K:Nat,(∀k n,r=.ok (k,n)→k=K)→OneEnd w r (.returned (.tuple #[.int .i64 K,.int .i64 n,v])) w':=by
 obtain⟨hb,h⟩:=h;cases r with
 | error f=>obtain⟨v,rfl,hv⟩:=h;exact⟨0,v,rfl,fun K _=>⟨hb,K,v,rfl,hv⟩⟩
 | ok q=>obtain⟨k,n⟩:=q;exact⟨n,.nilIface,h,fun K hK=>by obtain rfl:=hK k n rfl;exact⟨hb,rfl⟩⟩
theorem byte_eq(c:UInt8)(n:Nat)(hn:n<256):((c.toNat:Int)==(n:Int))=(c==UInt8.ofNat n):=by rw[Bool.eq_iff_iff,beq_iff_eq,beq_iff_eq,←UInt8.toNat_inj];rw[UInt8.toNat_ofNat',Nat.mod_eq_of_lt hn];omega
theorem quoteL_kind{sz p:Nat}{r:List UInt8}:∀k n,quoteL sz p r=.ok (k,n)→k=2:=by
 intro k n h;unfold quoteL at h;split at h;· cases h
 split at h;· cases h
 split at h;· cases h
 injection h with h;exact(Prod.mk.inj h).1.symm
theorem commentL_kind{sz p:Nat}{r:List UInt8}:∀k n,commentL sz p r=.ok (k,n)→k=0:=by
 intro k n h;unfold commentL at h;split at h
 ·split at h
  ·cases h
  ·injection h with h;exact(Prod.mk.inj h).1.symm
 ·cases h
set_option maxRecDepth 100000 in
set_option maxHeartbeats 3200000 in
theorem one_at(s:ByteArray)(hs:s.size≤8192)(p:Nat)(hp:p<s.size)(w:World)(hm:HasMax w):Calls Tryz.prog 117 #[.string s,.int .i64 p] w (OneEnd w (oneL s.size p (s.data.toList.drop p))):=by
 have HW:=Hd (white_any s[p] w);have e47:=byte_eq s[p] 47 (by decide);have e39:=byte_eq s[p] 39 (by decide);have e37:=byte_eq s[p] 37 (by decide);have hd:=drop_at s p hp;unfold oneL;rw[hd];simp only;rw[←hd];clear hd;cases hw:whiteB s[p] with
 | true=>
  rw[hw]at HW;rw[if_pos rfl];have HSP:=Hd (span_white s (by omega) p (by omega) w);clear hw e47 e39 e37;go_enter Tryz.func117,Tryz.ntmps117
  go_wp2_with (first
   | (go_at_call 160;refine HW.out.mono ?_;rintro e w' ⟨rfl,rfl⟩)
   | (go_at_call 161;refine HSP.out.mono ?_;rintro e w' ⟨rfl,rfl⟩))
  go_ret3
  exact OneEnd.yesI _ 0 _ _ rfl
 | false=>
 rw[hw]at HW;rw[if_neg (by decide)];clear hw;by_cases h47:s[p]=47
 ·rw[if_pos h47]
  have q47:((s[p].toNat:Int)==47)=true:=by rw[h47];rfl
  have HC:=Hd (comment_at s hs p hp h47 w hm);clear e47 e39 e37 h47;go_enter Tryz.func117,Tryz.ntmps117
  go_wp2_with (first
   | (go_at_call 160;refine HW.out.mono ?_;rintro e w' ⟨rfl,rfl⟩)
   | (go_at_call 162;refine HC.out.mono ?_;intro e w' hx;obtain⟨n,v,rfl,hx2⟩:=hx.one;clear hx;have HX:=Hd (hx2 0 commentL_kind);clear hx2))
  go_ret3
  exact HX.out
 rw[if_neg h47];have q47:((s[p].toNat:Int)==47)=false:=by rw[show ((s[p].toNat:Int)==47)=_ from e47];exact bN.2 h47
 clear e47 h47;by_cases h39:s[p]=39
 ·rw[if_pos h39]
  have q39:((s[p].toNat:Int)==39)=true:=by rw[h39];rfl
  have HC:=Hd (quoted_at s (by omega) p hp w);clear e39 e37 h39;go_enter Tryz.func117,Tryz.ntmps117
  go_wp2_with (first
   | (go_at_call 160;refine HW.out.mono ?_;rintro e w' ⟨rfl,rfl⟩)
   | (go_at_call 131;refine HC.out.mono ?_;intro e w' hx;obtain⟨n,v,rfl,hx2⟩:=hx.one;clear hx;have HX:=Hd (hx2 2 quoteL_kind);clear hx2))
  go_ret3
  exact HX.out
 rw[if_neg h39];have q39:((s[p].toNat:Int)==39)=false:=by rw[show ((s[p].toNat:Int)==39)=_ from e39];exact bN.2 h39
 clear e39 h39;by_cases h37:s[p]=37
 ·rw[if_pos h37]
  have q37:((s[p].toNat:Int)==37)=true:=by rw[h37];rfl
  have HC:=Hd (mark_at s hs p hp h37 w);clear e37 h37;generalize markL p (s.data.toList.drop (p+1))=res at *;cases res with
  | ok q=>
   obtain⟨k,n⟩:=q;go_enter Tryz.func117,Tryz.ntmps117
   go_wp2_with (first
    | (go_at_call 160;refine HW.out.mono ?_;rintro e w' ⟨rfl,rfl⟩)
    | (go_at_call 163;refine HC.out.mono ?_;intro e w' hx;obtain⟨hb,rfl⟩:=hx;have HX:=Hd hb;clear hb))
   go_ret3
   exact⟨HX.out,rfl⟩
  | error f=>
   go_enter Tryz.func117,Tryz.ntmps117
   go_wp2_with (first
    | (go_at_call 160;refine HW.out.mono ?_;rintro e w' ⟨rfl,rfl⟩)
    | (go_at_call 163;refine HC.out.mono ?_;intro e w' hx;obtain⟨hb,k,v,rfl,hv⟩:=hx;have HX:=Hd hb;have HV:=Hd hv;clear hb hv))
   go_ret3
   exact⟨HX.out,_,_,rfl,HV.out⟩
 rw[if_neg h37];have q37:((s[p].toNat:Int)==37)=false:=by rw[show ((s[p].toNat:Int)==37)=_ from e37];exact bN.2 h37
 clear e37 h37;have HCL:=Hd (class_any s[p] w);by_cases h4:classOf s[p]=4
 ·rw[if_pos h4]
  rw[h4]at HCL;clear h4;have HSP:=Hd (span_gletter s (by omega) p (by omega) w);generalize spanBy letB (s.data.toList.drop p)=k at *;by_cases h24:24<k
  ·rw[if_pos h24]
   have q24:(24:Int)<(k:Int):=by omega
   clear h24;go_enter Tryz.func117,Tryz.ntmps117
   go_wp2_with (first
    | (go_at_call 160;refine HW.out.mono ?_;rintro e w' ⟨rfl,rfl⟩)
    | (go_at_call 164;refine HCL.out.mono ?_;rintro e w' ⟨rfl,rfl⟩)
    | (go_at_call 161;refine HSP.out.mono ?_;rintro e w' ⟨rfl,rfl⟩)
    | (go_at_call 67;refine(fnew_at _ rfl _ _).mono ?_;rintro e w' ⟨rfl,rfl⟩))
   go_ret3
   exact OneEnd.errI _ 5 p _ _ rfl
  ·rw[if_neg h24]
   have q24:¬(24:Int)<(k:Int):=by omega
   clear h24;go_enter Tryz.func117,Tryz.ntmps117
   go_wp2_with (first
    | (go_at_call 160;refine HW.out.mono ?_;rintro e w' ⟨rfl,rfl⟩)
    | (go_at_call 164;refine HCL.out.mono ?_;rintro e w' ⟨rfl,rfl⟩)
    | (go_at_call 161;refine HSP.out.mono ?_;rintro e w' ⟨rfl,rfl⟩))
   go_ret3
   exact OneEnd.yesI _ 1 k _ rfl
 rw[if_neg h4];have q4:((classOf s[p]:Int)==4)=false:=bN.2 (by omega);clear h4;have HS:=Hd (sign_any s[p] w);generalize classOf s[p]=cl at *;by_cases h0:signL s[p]=0
 ·rw[if_neg (by simpa using h0)]
  rw[h0]at HS;clear h0;go_enter Tryz.func117,Tryz.ntmps117
  go_wp2_with (first
   | (go_at_call 160;refine HW.out.mono ?_;rintro e w' ⟨rfl,rfl⟩)
   | (go_at_call 164;refine HCL.out.mono ?_;rintro e w' ⟨rfl,rfl⟩)
   | (go_at_call 166;refine HS.out.mono ?_;rintro e w' ⟨rfl,rfl⟩)
   | (go_at_call 67;refine(fnew_at _ rfl _ _).mono ?_;rintro e w' ⟨rfl,rfl⟩))
  go_ret3
  exact OneEnd.errI _ 2 p _ _ rfl
 ·rw[if_pos h0]
  generalize signL s[p]=sg at *;have q0:((sg:Int) != 0)=true:=bne_iff_ne.2 (by omega);clear h0;go_enter Tryz.func117,Tryz.ntmps117
  go_wp2_with (first
   | (go_at_call 160;refine HW.out.mono ?_;rintro e w' ⟨rfl,rfl⟩)
   | (go_at_call 164;refine HCL.out.mono ?_;rintro e w' ⟨rfl,rfl⟩)
   | (go_at_call 166;refine HS.out.mono ?_;rintro e w' ⟨rfl,rfl⟩))
  go_ret3
  exact OneEnd.yesI _ sg 1 _ rfl
theorem one_len{sz p:Nat}{l:List UInt8}{k n:Nat}(he:oneL sz p l=.ok (k,n))(hsz:sz=p+l.length):n≤l.length:=by
 unfold oneL at he;cases l with
 | nil=>injection he with he;obtain⟨rfl,rfl⟩:=Prod.mk.inj he;simp
 | cons c r=>
  simp only at he;split at he
  ·injection he with he
   obtain⟨rfl,rfl⟩:=Prod.mk.inj he;exact spanBy_le _ _
  split at he
  ·unfold commentL at he
   split at he
   ·rename_i h42
    split at he
    ·cases he
    ·rename_i h0
     injection he with he;obtain⟨rfl,rfl⟩:=Prod.mk.inj he;cases r with
     | nil=>cases h42
     | cons d t=>
      simp only[List.drop_succ_cons,List.drop_zero]at h0 ⊢;have hroom:(Lib.index t [42,47]).toNat+2≤t.length:=by
       rcases Lib.index_spec t [42,47] with⟨h1,_⟩|⟨i,h1,_,h2,_⟩
       ·omega
       ·rcases Lib.occAt_room h2 with h3|h3
        ·rw[h1];simpa using h3
        ·cases h3
      simp;omega
   ·cases he
  split at he
  ·unfold quoteL at he
   split at he;· cases he
   split at he;· cases he
   rename_i h2;split at he;· cases he
   injection he with he;obtain⟨rfl,rfl⟩:=Prod.mk.inj he;have h2a:r[spanL r]?=some 39:=by
    by_cases h:r[spanL r]?=some 39
    ·exact h
    ·exact absurd (.inl h) h2
   have hlt:spanL r<r.length:=(sG.1 h2a).1;simp;omega
  split at he
  ·have hsp:=spanBy_le letB r
   unfold markL at he;split at he
   ·rename_i h37
    injection he with he;obtain⟨rfl,rfl⟩:=Prod.mk.inj he;cases r with
    | nil=>cases h37
    | cons d t=>simp
   split at he
   ·injection he with he;obtain⟨rfl,rfl⟩:=Prod.mk.inj he;simp;omega
   split at he
   ·injection he with he;obtain⟨rfl,rfl⟩:=Prod.mk.inj he;simp;omega
   ·cases he
  split at he
  ·split at he
   ·cases he
   injection he with he;obtain⟨rfl,rfl⟩:=Prod.mk.inj he;exact spanBy_le _ _
  split at he
  ·injection he with he
   obtain⟨rfl,rfl⟩:=Prod.mk.inj he;simp
  ·cases he
def Tk.cells(t:Tk):List Value:=[.int .i64 t.k,.string (str t.s),.int .i64 t.p]
theorem Tk.cells_len(t:Tk):t.cells.length=3:=rfl
theorem ElTok:El Tryz.prog 130 201 3 32:=El.of (z:=.agg #[.int .i64 0,.string ⟨#[]⟩,.int .i64 0]) Tryz.underlying130 (by kernel_rfl) rfl (by decide)
theorem src_tok(y:World)(a c:Int)(b:ByteArray):SrcOK (y.alloc (.cells #[.int .i64 a,.string b,.int .i64 c] 201)) (.slice (some ⟨y.heap.size,0,none⟩) 1 1) 1 3 [.int .i64 a,.string b,.int .i64 c]:=
 SrcOK.blk (c:=1) (Blk.new y 201 #[.int .i64 a,.string b,.int .i64 c]) rfl (by simp[Value.oneCell'])
theorem below_app{B:Nat}{w1 w2:World}{o:Obj}{T:List TypeId}(h:Keeps B T (w1.alloc o) w2)(hB:B≤w1.heap.size):Below B w1 w2:=
 ((below_alloc w1 o).mono hB).trans (h.below (by simp;omega))
def prep(acc:List Tk):Except Flt (List Tk)→Except Flt (List Tk)
 | .ok ts=>.ok (acc++ts)
 | .error e=>.error e
def TokAt(s:ByteArray)(p:Nat)(acc:List Tk):Prop:=∃f,s.size-p<f∧toksL s.size (s.size+1) 0 s.data.toList=prep acc (toksL s.size f p (s.data.toList.drop p))
theorem TokAt.start(s:ByteArray):TokAt s 0 []:=⟨s.size+1,by omega,by rw[List.drop_zero];generalize toksL s.size (s.size+1) 0 s.data.toList=r;cases r<;>rfl⟩
theorem TokAt.last{s:ByteArray}{p:Nat}{acc:List Tk}(h:TokAt s p acc)(hp:p=s.size):toksL s.size (s.size+1) 0 s.data.toList=.ok (acc++[⟨0,[],s.size⟩]):=by
 obtain⟨f,hf,h⟩:=h;subst hp;rw[h,drop_end];cases f with
 | zero=>omega
 | succ f=>rfl
theorem TokAt.step{s:ByteArray}{p:Nat}{acc:List Tk}(h:TokAt s p acc)(hp:p<s.size) :
  match oneL s.size p (s.data.toList.drop p) with
  | .error e=>toksL s.size (s.size+1) 0 s.data.toList=.error e
  | .ok (k,n)=>0<n∧p+n≤s.size∧TokAt s (p+n) (if k=0 then acc else acc++[⟨k,(s.data.toList.drop p).take n,p⟩]):=by
 obtain⟨f,hf,h⟩:=h;have hlen:(s.data.toList.drop p).length=s.size-p:=by rw[List.length_drop,len_size]
 cases f with
 | zero=>omega
 | succ f=>
  have hne:(s.data.toList.drop p).isEmpty=false:=by
   cases hh:s.data.toList.drop p with
   | nil=>rw[hh]at hlen;simp at hlen;omega
   | cons a l=>rfl
  cases ho:oneL s.size p (s.data.toList.drop p) with
  | error e=>simp only;rw[h];simp only[toksL,hne,ho];rfl
  | ok q=>
   obtain⟨k,n⟩:=q;simp only;have h1:=(one_ok ho).2 (by omega);have h2:=one_len ho (by omega);refine⟨h1,by omega,f,by omega,?_⟩;rw[h];simp only[toksL,hne,ho];rw[List.drop_drop];cases toksL s.size f (p+n) (s.data.toList.drop (p+n)) with
   | error e=>rfl
   | ok ts=>
    simp only[prep];by_cases hk:k=0
    ·rw[if_pos hk,if_pos hk];rfl
    ·rw[if_neg hk,if_neg hk];simp
def AllEnd(w:World)(r:Except Flt (List Tk))(e:Ending)(w':World):Prop:=
 Below w.heap.size w w'∧match r with
 | .ok ts=>∃v,e=.returned (.tuple #[v,.nilIface])∧w'.ownsRow w.heap.size 201 3 v ts.length (ts.flatMap Tk.cells)
 | .error f=>∃v,e=.returned (.tuple #[.slice none 0 0,v])∧ErrAt w' v f
set_option maxRecDepth 100000 in
set_option maxHeartbeats 3200000 in
theorem all_any(s:ByteArray)(hs:s.size≤4611686018427387904)(w:World)(hm:HasMax w):Calls Tryz.prog 65 #[.string s] w (AllEnd w (tokens s.data.toList)):=by
 unfold tokens;rw[len_size];by_cases hlong:8192<s.size
 ·rw[if_pos hlong]
  have q1:(8192:Int)<(s.size:Int):=by omega
  clear hlong;go_enter Tryz.func65,Tryz.ntmps65
  go_wp2;go_step3
  go_wp2_with (go_at_call 67;refine(fnew_at _ rfl _ _).mono ?_;rintro e w' ⟨rfl,rfl⟩)
  rw[Exit.noGoto_ret]
  go_ret2
  exact⟨below_alloc _ _,_,rfl,ErrAt.new w 5 0⟩
 rw[if_neg hlong];have q1:¬(8192:Int)<(s.size:Int):=by omega
 have hs2:s.size≤8192:=by omega
 have HM:=Hd hm;clear hlong hm;go_enter Tryz.func65,Tryz.ntmps65
 go_wp2;go_step3
 go_wp2;go_step3
 go_wp2;go_loopw [4,5] (fun v i wr=>∃(p:Nat) (acc:List Tk),p≤s.size∧i=.int .i64 p∧acc.length≤p∧(∃A c,v=.slice A acc.length c)∧Hid (wr.ownsRow w.heap.size 201 3 v acc.length (acc.flatMap Tk.cells))∧Hid (Below w.heap.size w wr)∧Hid (TokAt s p acc)) (fun _ i _=>s.size-(intOf i).toNat)
 case atStart=>exact⟨0,[],zeL _,rfl,leR _,⟨none,0,rfl⟩,Hd (World.ownsRow_nil _ _ _ _),Hd (Below.refl _ _),Hd (TokAt.start s)⟩
 case round=>
  obtain⟨p,acc,hp,rfl,hacc,⟨A,c,rfl⟩,HO,HB,HT⟩:=hrel;by_cases hlt:p<s.size
  ·have hq1:¬(s.size:Int)≤(p:Int):=by omega
   have HONE:=Hd (one_at s hs2 p hlt wr (HM.out.later HB.out));have hstep:=HT.out.step hlt;cases ho:oneL s.size p (s.data.toList.drop p) with
   | error f=>
    rw[ho]at HONE hstep;have HS:=Hd hstep;clear hstep ho;go_wp2_with (go_at_call 117;refine HONE.out.mono ?_;intro e w1 hx;obtain⟨hb,k,v,rfl,hv⟩:=hx;obtain⟨b,rfl,hk⟩:=hv;have HB1:=Hd hb;have HV:=Hd hk;clear hb hk)
    go_ret2
    rw[HS.out];exact⟨HB.out.trans (HB1.out.mono HB.out.size),_,rfl,_,rfl,HV.out⟩
   | ok q=>
    obtain⟨k,n⟩:=q;rw[ho]at HONE hstep;obtain⟨hn0,hn1,hn2⟩:=hstep;have HN:=Hd hn2;have b1:(p:Int)+(n:Int)≤(s.size:Int):=by omega
    have hstr:str ((s.data.toList.drop p).take n)=s.extract p (p+n):=by rw[←extract_take,str_data]
    have HSTR:=Hd hstr;clear ho hn2 hstr;by_cases hk:k=0
    ·subst hk
     have HN2:Hid (TokAt s (p+n) acc):=Hd HN.out;go_wp2_with (go_at_call 117;refine HONE.out.mono ?_;intro e w1 hx;obtain⟨hb,rfl⟩:=hx;have HB1:=Hd hb;clear hb)
     go_roundw
     case rel=>exact⟨p+n,acc,by omega,by go_num,by omega,⟨_,_,rfl⟩,Hd ((Keeps.of_below (B:=0) (T:=[]) HB1.out).own HO.out (.inr (by simp))),Hd (HB.out.trans (HB1.out.mono HB.out.size)),HN2⟩
     case measure=>simp[intOf];omega
    ·have HN2:Hid (TokAt s (p+n) (acc++[⟨k,(s.data.toList.drop p).take n,p⟩])):=Hd (by have:=HN.out;rw[if_neg hk]at this;exact this)
     have q0:((k:Int) != 0)=true:=bne_iff_ne.2 (by omega);clear hk;go_wp2_with (first
      | (go_at_call 117;refine HONE.out.mono ?_;intro e w1 hx;obtain⟨hb,rfl⟩:=hx;have HB1:=Hd hb;have HO1:=Hd ((Keeps.of_below (B:=0) (T:=[]) hb).own HO.out (.inr (by simp)));have hsz1:=HB.out.size;have hsz2:=hb.size;clear hb)
      | (at_builtin;refine wpList_app ElTok (.tmp 29) (.tmp 39) rfl rfl (base:=w.heap.size) (n:=acc.length) (m:=1) (N:=acc.length+1) (xs:=acc.flatMap Tk.cells) (news:=[.int .i64 k,.string (s.extract p (p+n)),.int .i64 p]) rfl rfl (HO1.out.alloc _) (src_tok w1 _ _ _) rfl (by unfold maxLen;omega) (by omega) (by simp;omega) ?_;intro A2 c2 w2 r1 r2 r3;have HR1:=Hd r1;have HK2:=Hd (below_app r2 (by omega));clear r1 r2 r3))
     go_roundw
     case rel=>refine⟨p+n,acc++[⟨k,(s.data.toList.drop p).take n,p⟩],by omega,by go_num,by simp;omega,⟨A2,c2,by simp⟩,Hd ?_,Hd ((HB.out.trans (HB1.out.mono HB.out.size)).trans HK2.out),HN2⟩;have:=HR1.out;rw[←HSTR.out]at this;simpa [Tk.cells] using this
     case measure=>simp[intOf];omega
  ·have hq1:(s.size:Int)≤(p:Int):=by omega
   obtain rfl:p=s.size:=by omega
   have HL:=Hd (HT.out.last rfl);have hsz1:=HB.out.size;go_wp2_with (at_builtin;refine wpList_app ElTok (.tmp 44) (.tmp 48) rfl rfl (base:=w.heap.size) (n:=acc.length) (m:=1) (N:=acc.length+1) (xs:=acc.flatMap Tk.cells) (news:=[.int .i64 0,.string ⟨#[]⟩,.int .i64 s.size]) rfl rfl (HO.out.alloc _) (src_tok wr _ _ _) rfl (by unfold maxLen;omega) (by omega) (by simp;omega) ?_;intro A2 c2 w2 r1 r2 r3;have HR1:=Hd r1;have HK2:=Hd (below_app r2 (by omega));clear r1 r2 r3)
   rw[Exit.noGoto_ret]
   go_ret2
   rw[HL.out];refine⟨HB.out.trans HK2.out,_,rfl,?_⟩;have:=HR1.out;simpa [Tk.cells,str] using this
def Gives(f:Flt)(e:Ending):Prop:=e=.panicked [{v:=.iface 134 (.agg #[.int .i64 f.1,.int .i64 f.2]),recovered:=false}]
theorem fail_any(k p:Int)(w:World):Calls Tryz.prog 173 #[.int .i64 k,.int .i64 p] w fun e w'=>e=.panicked [{v:=.iface 134 (.agg #[.int .i64 k,.int .i64 p]),recovered:=false}]∧w=w':=by
 go_enter Tryz.func173,Tryz.ntmps173
 go_wp2;exact⟨rfl,rfl,rfl⟩
theorem Gives.of{k p:Int}{f:Flt}(h1:k=f.1)(h2:p=f.2):Gives f (.panicked [{v:=.iface 134 (.agg #[.int .i64 k,.int .i64 p]),recovered:=false}]):=by subst h1;subst h2;rfl
structure LiesAt(w:World)(b off c:Nat)(cs:Array Value)(l:List Tk):Prop where
 blk:Blk w b 201 cs
 cap:l.length≤c∧c≤maxLen
 cell:∀k t,l[k]?=some t→cs[off+k*3]?=some (.int .i64 t.k)∧cs[off+k*3+1]?=some (.string (str t.s))∧cs[off+k*3+2]?=some (.int .i64 t.p)
def Lies(w:World)(v:Value)(l:List Tk):Prop:=∃b off c cs,v=.slice (some ⟨b,off,none⟩) l.length c∧LiesAt w b off c cs l
theorem Lies.chg{X:Nat→Prop}{w w':World}{v:Value}{l:List Tk}(h:Lies w v l)(hc:Chg X w w')(hx:∀g,v.ownBlock=some g→¬X g):Lies w' v l:=by obtain⟨b,off,c,cs,rfl,h⟩:=h;exact⟨b,off,c,cs,rfl,hc.blk h.blk (hx b rfl),h.cap,h.cell⟩
theorem Lies.lt{w:World}{v:Value}{l:List Tk}(h:Lies w v l):∀g,v.ownBlock=some g→g<w.heap.size:=by
 obtain⟨b,off,c,cs,rfl,h⟩:=h;intro g hg;cases hg
 exact h.blk.lt
theorem LiesAt.tail{w:World}{b off c:Nat}{cs:Array Value}{t:Tk}{r:List Tk}(h:LiesAt w b off c cs (t::r)):LiesAt w b (off+3) (c-1) cs r where
 blk:=h.blk
 cap:=by have:=h.cap;simp at this;omega
 cell k u hu:=by have:=h.cell (k+1) u hu;rw[show off+3+k*3=off+(k+1)*3 by omega];exact this
theorem LiesAt.head{w:World}{b off c:Nat}{cs:Array Value}{t:Tk}{r:List Tk}(h:LiesAt w b off c cs (t::r)) :
  w.cell? ⟨b,off,none⟩=some (.int .i64 t.k)∧w.cell? ⟨b,off+1,none⟩=some (.string (str t.s))∧w.cell? ⟨b,off+2,none⟩=some (.int .i64 t.p):=by
 have:=h.cell 0 t rfl;rw[h.blk.cell,h.blk.cell,h.blk.cell];simpa using this
theorem is_any{w:World}{rb:Nat}{lv:Value}{t:Tk}{r:List Tk}(h0:w.cell? ⟨rb,0,none⟩=some lv)(hl:Lies w lv (t::r))(k:Nat):Calls Tryz.prog 118 #[.pointer (some ⟨rb,0,none⟩),.int .i64 k] w fun e w'=>e=.returned (.bool (t.k==k))∧w'=w:=by
 obtain⟨b,off,c,cs,rfl,h⟩:=hl;obtain⟨c0,_,_⟩:=h.head;have hb:((t.k:Int)==(k:Int))=(t.k==k):=by rw[Bool.eq_iff_iff,beq_iff_eq,beq_iff_eq];omega
 have HB:=Hd hb;have hn:(0:Int)<((t::r).length:Int):=by rw[List.length_cons];omega
 generalize (t::r).length=n at *;clear h hb;go_enter Tryz.func118,Tryz.ntmps118
 go_wp2;go_ret;exact⟨ret_bool HB.out,rfl⟩
theorem sym_any{w:World}{rb:Nat}{lv:Value}{t:Tk}{r:List Tk}(h0:w.cell? ⟨rb,0,none⟩=some lv)(hl:Lies w lv (t::r)):Calls Tryz.prog 167 #[.pointer (some ⟨rb,0,none⟩)] w fun e w'=>e=.returned (.bool (symT t))∧w'=w:=by
 have H1:=Hd (is_any h0 hl 1);have H2:=Hd (is_any h0 hl 2);unfold symT;clear h0 hl;cases h1:(t.k==1) with
 | true=>
  rw[h1]at H1;clear h1;go_enter Tryz.func167,Tryz.ntmps167
  go_wp2_with (go_at_call 118;refine H1.out.mono ?_;rintro e w' ⟨rfl,rfl⟩)
  go_ret;exact⟨rfl,rfl⟩
 | false=>
  rw[h1]at H1;clear h1;go_enter Tryz.func167,Tryz.ntmps167
  go_wp2_with fail
  refine H1.out.mono ?_;rintro e w' ⟨rfl,rfl⟩;go_wp2_with fail
  refine H2.out.mono ?_;rintro e w' ⟨rfl,rfl⟩;go_wp2;go_ret;exact⟨by simp,rfl⟩
theorem bad_any{w:World}{rb:Nat}{lv:Value}{t:Tk}{r:List Tk}(h0:w.cell? ⟨rb,0,none⟩=some lv)(hl:Lies w lv (t::r)):Calls Tryz.prog 168 #[.pointer (some ⟨rb,0,none⟩)] w fun e w'=>Gives (badT (t::r)) e∧w'=w:=by
 have H1:=Hd (is_any h0 hl 0);obtain⟨b,off,c,cs,rfl,h⟩:=hl;obtain⟨_,_,c2⟩:=h.head;have hn:(0:Int)<((t::r).length:Int):=by rw[List.length_cons];omega
 have hbd:badT (t::r)=(if t.k=0 then 4 else 3,t.p):=rfl;rw[hbd];clear h hbd;generalize (t::r).length=n at *;by_cases hk:t.k=0
 ·rw[if_pos hk]
  rw[show (t.k==0)=true by simp[hk]]at H1;clear hk;go_enter Tryz.func168,Tryz.ntmps168
  go_wp2_with (first
   | (go_at_call 118;refine H1.out.mono ?_;rintro e w' ⟨rfl,rfl⟩)
   | (go_at_call 173;refine(fail_any _ _ _).mono ?_;rintro e w' ⟨rfl,rfl⟩))
  exact⟨rfl,Gives.of rfl rfl,rfl⟩
 ·rw[if_neg hk]
  rw[show (t.k==0)=false by simp[hk]]at H1;clear hk;go_enter Tryz.func168,Tryz.ntmps168
  go_wp2_with (first
   | (go_at_call 118;refine H1.out.mono ?_;rintro e w' ⟨rfl,rfl⟩)
   | (go_at_call 173;refine(fail_any _ _ _).mono ?_;rintro e w' ⟨rfl,rfl⟩))
  exact⟨rfl,Gives.of rfl rfl,rfl⟩
def Tk.val(t:Tk):Value:=.agg #[.int .i64 t.k,.string (str t.s),.int .i64 t.p]
def Took(w:World)(rb:Nat)(f1 f2 f3 f4 f5:Value)(lv:Value)(t:Tk)(r:List Tk)(e:Ending)(w':World):Prop:=
 e=.returned t.val∧Chg (·=rb) w w'∧∃lv',Blk w' rb 140 #[lv',f1,f2,f3,f4,f5]∧Lies w' lv' r∧lv'.ownBlock=lv.ownBlock
set_option maxHeartbeats 1600000 in
theorem take_any{w:World}{rb:Nat}{f1 f2 f3 f4 f5 lv:Value}{t:Tk}{r:List Tk}(hB:Blk w rb 140 #[lv,f1,f2,f3,f4,f5])(hl:Lies w lv (t::r))(hr:r≠[])(hne:lv.ownBlock≠some rb):Calls Tryz.prog 120 #[.pointer (some ⟨rb,0,none⟩)] w (Took w rb f1 f2 f3 f4 f5 lv t r):=by
 obtain⟨b,off,c,cs,rfl,h⟩:=hl;obtain⟨c0,c1,c2⟩:=h.head;have hbr:b≠rb:=fun e=>hne (by rw[e];rfl)
 have hb0:=hB.cell 0;have hf0:=hB.frozen 0;simp at hb0;have hlt:=hB.lt;have hltb:=h.blk.lt;have hT:=Hd h;have hcap:=h.cap;have hrl:0<r.length:=List.length_pos_iff.2 hr;simp only[List.length_cons]at hcap;have HB:=Hd hB;clear h hB hr hne;obtain⟨hc1,hc2⟩:=hcap;unfold maxLen at hc2;rw[show (t::r).length=r.length+1 from rfl];have q1:¬c=1:=by omega
 have q2:(0:Int)<(r.length:Int)+1:=by omega
 have q3:(1:Int)≤(r.length:Int)+1:=by omega
 have q4:(r.length:Int)+1≤(c:Int):=by omega
 go_enter Tryz.func120,Tryz.ntmps120
 go_wp2;refine bodyPost_ret (v:=t.val) (by simp[results,Tryz.results120,go_sem,Tk.val]) rfl ⟨rfl,?_,?_⟩
 ·exact(((Chg.refl (·=rb) w).set (p:=⟨rb,0,none⟩) (.inr rfl) _).alloc _).alloc _
 ·have hB2:=(((HB.out.set_ 0 (.slice (some ⟨b,off+3,none⟩) r.length (c-1))).alloc (.cells #[.int .i64 t.k,.string (str t.s),.int .i64 t.p] 201)).alloc (.cells #[.int .i64 t.k,.string (str t.s),.int .i64 t.p] 201))
  refine⟨_,by simpa using hB2,⟨b,off+3,c-1,cs,rfl,?_⟩,rfl⟩;have h2:=hT.out.tail;exact⟨((h2.blk.far (p:=⟨rb,0,none⟩) (by simpa using hbr) _).alloc _).alloc _,h2.cap,h2.cell⟩
theorem want_no{w:World}{rb:Nat}{lv:Value}{t:Tk}{r:List Tk}(h0:w.cell? ⟨rb,0,none⟩=some lv)(hl:Lies w lv (t::r))(k:Nat)(hk:(t.k==k)=false):Calls Tryz.prog 169 #[.pointer (some ⟨rb,0,none⟩),.int .i64 k] w fun e w'=>Gives (badT (t::r)) e∧Below w.heap.size w w':=by
 have hA:=below_alloc w (.cells #[.int .i64 0,.string ⟨#[]⟩,.int .i64 0] 201);have h0':=(hA.cell (p:=⟨rb,0,none⟩) (World.block_lt_of_cell? w _ h0)).trans h0;have hl':Lies (w.alloc (.cells #[.int .i64 0,.string ⟨#[]⟩,.int .i64 0] 201)) lv (t::r):=hl.chg (X:=fun _=>False) (.of_below hA) (fun _ _ h=>h);have h1:=is_any h0' hl' k;rw[hk]at h1;have H1:=Hd h1;have H2:=Hd (bad_any h0' hl');clear h0 hl h0' hl' h1 hk hA;go_enter Tryz.func169,Tryz.ntmps169
 go_wp2_with (first
  | (go_at_call 118;refine H1.out.mono ?_;rintro e w' ⟨rfl,rfl⟩)
  | (go_at_call 168;refine H2.out.mono ?_;intro e w' hx;obtain⟨rfl,rfl⟩:=hx))
 exact⟨rfl,Gives.of rfl rfl,below_alloc _ _⟩
set_option maxHeartbeats 1600000 in
theorem want_yes{w:World}{rb:Nat}{f1 f2 f3 f4 f5 lv:Value}{t:Tk}{r:List Tk}(hB:Blk w rb 140 #[lv,f1,f2,f3,f4,f5])(hl:Lies w lv (t::r))(hr:r≠[])(hne:lv.ownBlock≠some rb)(k:Nat)(hk:(t.k==k)=true):Calls Tryz.prog 169 #[.pointer (some ⟨rb,0,none⟩),.int .i64 k] w (Took w rb f1 f2 f3 f4 f5 lv t r):=by
 have hA:=below_alloc w (.cells #[.int .i64 0,.string ⟨#[]⟩,.int .i64 0] 201);have hB':=hB.alloc (.cells #[.int .i64 0,.string ⟨#[]⟩,.int .i64 0] 201);have hl':Lies (w.alloc (.cells #[.int .i64 0,.string ⟨#[]⟩,.int .i64 0] 201)) lv (t::r):=hl.chg (X:=fun _=>False) (.of_below hA) (fun _ _ h=>h);have h1:=is_any (hB'.cell 0) hl' k;rw[hk]at h1;have H1:=Hd h1;have H2:=Hd (take_any hB' hl' hr hne);have hlt:=hB.lt;have HA:=Hd hA;have HLB:=Hd hl.lt;clear hB hl hr hne hB' hl' h1 hk hA;go_enter Tryz.func169,Tryz.ntmps169
 go_wp2_with (first
  | (go_at_call 118;refine H1.out.mono ?_;rintro e w' ⟨rfl,rfl⟩)
  | (go_at_call 120;refine H2.out.mono ?_;intro e w1 hx;obtain⟨rfl,hc,hx2⟩:=hx;have HC:=Hd hc;have HX:=Hd hx2;have k0:=(hc.block w.heap.size (by simp) (by omega)).trans (Blk.new w 201 #[.int .i64 0,.string ⟨#[]⟩,.int .i64 0]);have HK:=Hd k0;have j0:=Blk.cell k0 0;have j1:=Blk.cell k0 1;have j2:=Blk.cell k0 2;have i0:=Blk.frozen k0 0;have i1:=Blk.frozen k0 1;have i2:=Blk.frozen k0 2;clear hc hx2 k0;simp at j0 j1 j2;unfold Tk.val))
 refine bodyPost_ret (v:=t.val) (by simp[results,Tryz.results169,go_sem,Tk.val,j0,j1,j2]) rfl ⟨rfl,?_,?_⟩
 ·exact(((((Chg.refl (·=rb) w).alloc _).next HC.out).set (p:=⟨w.heap.size,0,none⟩) (.inl (leR _)) _).set (p:=⟨w.heap.size,1,none⟩) (.inl (leR _)) _).set (p:=⟨w.heap.size,2,none⟩) (.inl (leR _)) _
 ·obtain⟨lv',hb,hl,ho⟩:=HX.out
  have hne:rb≠w.heap.size:=by omega
  obtain⟨b,off,c,cs,rfl,h⟩:=hl;have hbne:b≠w.heap.size:=by have:=HLB.out b (ho▸rfl);omega
  refine⟨_,((hb.far (p:=⟨w.heap.size,0,none⟩) hne _).far (p:=⟨w.heap.size,1,none⟩) hne _).far (p:=⟨w.heap.size,2,none⟩) hne _,⟨b,off,c,cs,rfl,?_⟩,ho⟩;exact⟨((h.blk.far (p:=⟨w.heap.size,0,none⟩) hbne _).far (p:=⟨w.heap.size,1,none⟩) hbne _).far (p:=⟨w.heap.size,2,none⟩) hbne _,h.cap,h.cell⟩
def Ended:List Tk→Prop
 | []=>False
 | [t]=>t.k=0
 | t::r=>t.k≠0∧Ended r
theorem Ended.tail{t:Tk}{r:List Tk}(h:Ended (t::r))(hk:t.k≠0):Ended r∧r≠[]:=by
 cases r with
 | nil=>exact absurd h hk
 | cons u r=>exact⟨h.2,by simp⟩
theorem Ended.cons{l:List Tk}(h:Ended l):∃t r,l=t::r:=by
 cases l with
 | nil=>exact h.elim
 | cons t r=>exact⟨t,r,rfl⟩
theorem sym_nz{t:Tk}(h:symT t=true):t.k≠0:=by intro h0;unfold symT at h;rw[h0]at h;cases h
theorem Chg.keeps{X:Nat→Prop}{T:List TypeId}{w a b:World}(h:Chg X w a)(k:Keeps w.heap.size T a b):Chg X w b:=
 ⟨k.os.trans h.os,k.tape.trans h.tape,k.output.trans h.output,leT h.size k.size,fun i hi hx=>(k.block i (ltL hi h.size) (.inl hi)).trans (h.block i hi hx)⟩
structure Stand(w:World)(rb:Nat)(f1 f2 f3 f4 f5:Value)(tb:Option Nat)(l:List Tk):Prop where
 ex:∃lv,Blk w rb 140 #[lv,f1,f2,f3,f4,f5]∧Lies w lv l∧lv.ownBlock=tb
 ended:Ended l
 ne:tb≠some rb
theorem Took.stand{w w':World}{rb:Nat}{f1 f2 f3 f4 f5 lv:Value}{t:Tk}{r:List Tk}{e:Ending}(h:Took w rb f1 f2 f3 f4 f5 lv t r e w')(hr:Ended r)(hne:lv.ownBlock≠some rb) :
  e=.returned t.val∧Chg (·=rb) w w'∧Stand w' rb f1 f2 f3 f4 f5 lv.ownBlock r:=by
 obtain⟨h1,h2,lv',h3,h4,h5⟩:=h;exact⟨h1,h2,⟨lv',h3,h4,h5⟩,hr,hne⟩
theorem Stand.chg{X:Nat→Prop}{w w':World}{rb:Nat}{f1 f2 f3 f4 f5:Value}{tb:Option Nat}{l:List Tk}(h:Stand w rb f1 f2 f3 f4 f5 tb l)(hc:Chg X w w')(h1:¬X rb)(h2:∀g,tb=some g→¬X g):Stand w' rb f1 f2 f3 f4 f5 tb l:=by obtain⟨lv,k1,k2,rfl⟩:=h.ex;exact⟨⟨lv,hc.blk k1 h1,k2.chg hc h2,rfl⟩,h.ended,h.ne⟩
theorem Stand.lt{w:World}{rb:Nat}{f1 f2 f3 f4 f5:Value}{tb:Option Nat}{l:List Tk}(h:Stand w rb f1 f2 f3 f4 f5 tb l):rb<w.heap.size∧∀g,tb=some g→g<w.heap.size:=by obtain⟨lv,k1,k2,rfl⟩:=h.ex;exact⟨k1.lt,k2.lt⟩
structure SideAt(w:World)(rb:Nat)(f1 f2 f3 f4 f5:Value)(tb:Option Nat)(l:List Tk)(sb:Nat)(p:Nat)(sv:Value)(a rest:List Tk)(wr:World):Prop where
 stand:Stand wr rb f1 f2 f3 f4 f5 tb rest
 blk:Blk wr sb 211 #[sv,.int .i64 p]
 own:wr.ownsRow w.heap.size 201 3 sv a.length (a.flatMap Tk.cells)
 chg:Chg (·=rb) w wr
 tw:l.takeWhile symT=a++rest.takeWhile symT
 dw:l.dropWhile symT=rest.dropWhile symT
theorem side_rel{w wr w1 w2:World}{rb:Nat}{f1 f2 f3 f4 f5:Value}{tb:Option Nat}{l:List Tk}{sb p c2:Nat}{sv:Value}{a r:List Tk}{t:Tk}{A2:Option Addr}(hlt:rb<w.heap.size)(htb:∀g,tb=some g→g<w.heap.size)(hsb:w.heap.size≤sb)
  (h:SideAt w rb f1 f2 f3 f4 f5 tb l sb p sv a (t::r) wr) (ht:symT t=true) (hc1:Chg (·=rb) wr w1) (hs1:Stand w1 rb f1 f2 f3 f4 f5 tb r)
  (ho:w2.ownsRow w.heap.size 201 3 (.slice A2 (a.length+1) c2) (a.length+1) (a.flatMap Tk.cells++t.cells)) (hk:Keeps w.heap.size [201] (w1.alloc (.cells #[.int .i64 t.k,.string (str t.s),.int .i64 t.p] 201)) w2) :
  SideAt w rb f1 f2 f3 f4 f5 tb l sb p (.slice A2 (a.length+1) c2) (a++[t]) r (w2.setCell ⟨sb,0,none⟩ (.slice A2 (a.length+1) c2)):=by
 have hrs:rb≠sb:=by omega
 have hbk:Blk w2 sb 211 #[sv,.int .i64 p]:=hk.blk ((hc1.blk h.blk (Ne.symm hrs)).alloc _) (.inr (by decide));have hcw:Chg (·=rb) w w2:=((h.chg.next hc1).alloc _).keeps hk;refine⟨⟨?_,hs1.ended,hs1.ne⟩,by simpa using hbk.set_ 0 _,?_,hcw.set (p:=⟨sb,0,none⟩) (.inl hsb) _,?_,?_⟩
 ·obtain⟨lv,k1,k2,k3⟩:=hs1.ex
  refine⟨lv,(hk.blk (k1.alloc _) (.inr (by decide))).far (by simpa using hrs) _,?_,k3⟩;obtain⟨b,off,c,cs,rfl,hl⟩:=k2;have hb:=htb b (by rw[←k3];rfl);exact⟨b,off,c,cs,rfl,(hk.blk (hl.blk.alloc _) (.inl hb)).far (by simp;omega) _,hl.cap,hl.cell⟩
 ·have:(a++[t]).length=a.length+1:=by simp
  rw[this,List.flatMap_append];refine own_far (by simpa using ho) ?_ _;intro he;rcases own_form ho with⟨e,_⟩|⟨b,c,e,_,_,_,_,cur,hcur⟩
  ·rw[e]at he;cases he
  ·rw[e]at he
   cases he
   exact Blk.ne_ (t:=201) hcur hbk (by decide) rfl
 ·rw[h.tw,List.takeWhile_cons,if_pos ht];simp
 ·rw[h.dw,List.dropWhile_cons,if_pos ht]
theorem own_shape{w:World}{base:Nat}{e:TypeId}{size n:Nat}{v:Value}{xs:List Value}(h:w.ownsRow base e size v n xs):∃A c,v=.slice A n c:=by
 rcases own_form h with⟨rfl,rfl⟩|⟨b,c,rfl,_⟩
 ·exact⟨none,0,rfl⟩
 ·exact⟨_,c,rfl⟩
theorem own_ne{w:World}{base x:Nat}{e:TypeId}{size n:Nat}{v:Value}{xs:List Value}(h:w.ownsRow base e size v n xs)(hx:x<base):∀g,v.ownBlock=some g→¬g=x:=by
 rcases own_form h with⟨rfl,_⟩|⟨b,c,rfl,hb,_⟩
 ·intro g hg;cases hg
 ·intro g hg he
  cases hg
  subst he;exact absurd hx (Nat.not_lt.2 hb)
theorem SideAt.len{w wr:World}{rb:Nat}{f1 f2 f3 f4 f5:Value}{tb:Option Nat}{l:List Tk}{sb p:Nat}{sv:Value}{a rest:List Tk}(h:SideAt w rb f1 f2 f3 f4 f5 tb l sb p sv a rest wr):a.length+rest.length=l.length:=by have h1:=congrArg List.length h.tw;have h2:=congrArg List.length h.dw;have h3:=congrArg List.length (List.takeWhile_append_dropWhile (p:=symT) (l:=l));have h4:=congrArg List.length (List.takeWhile_append_dropWhile (p:=symT) (l:=rest));rw[lnA]at h1 h3 h4;omega
theorem sideL_l(l:List Tk):(sideL l).l=l.takeWhile symT:=by cases l<;>rfl
theorem SideAt.drew{w wr:World}{rb:Nat}{f1 f2 f3 f4 f5:Value}{tb:Option Nat}{l:List Tk}{sb p:Nat}{sv:Value}{a rest:List Tk}(h:SideAt w rb f1 f2 f3 f4 f5 tb l sb p sv a rest wr):SideAt w rb f1 f2 f3 f4 f5 tb l sb p sv a rest wr.drew:=by have hd:Chg (fun _=>False) wr wr.drew:=(Chg.refl _ _).drew;exact⟨h.stand.chg hd id (fun _ _=>id),hd.blk h.blk id,hd.own h.own (fun _ _=>id),h.chg.drew,h.tw,h.dw⟩
def SideEnd(w:World)(rb:Nat)(f1 f2 f3 f4 f5:Value)(tb:Option Nat)(l:List Tk)(e:Ending)(w':World):Prop:=
 ∃A c,e=.returned (.agg #[.slice A (sideL l).l.length c,.int .i64 (sideL l).p])∧Chg (·=rb) w w'∧Stand w' rb f1 f2 f3 f4 f5 tb (l.dropWhile symT)∧w'.ownsRow w.heap.size 201 3 (.slice A (sideL l).l.length c) (sideL l).l.length ((sideL l).l.flatMap Tk.cells)
set_option maxRecDepth 100000 in
set_option maxHeartbeats 3200000 in
theorem side_any{w:World}{rb:Nat}{f1 f2 f3 f4 f5:Value}{tb:Option Nat}{l:List Tk}(h:Stand w rb f1 f2 f3 f4 f5 tb l)(hlen:l.length≤100000):Calls Tryz.prog 170 #[.pointer (some ⟨rb,0,none⟩)] w (SideEnd w rb f1 f2 f3 f4 f5 tb l):=by
 obtain⟨hlt,htb⟩:=h.lt;obtain⟨t0,r0,hl0⟩:=h.ended.cons;obtain⟨lv,hB,hl,hown⟩:=h.ex;have hA:=below_alloc w (.cells #[.slice none 0 0,.int .i64 0] 211);have hAA:=((Chg.refl (·=rb) w).alloc (.cells #[.slice none 0 0,.int .i64 0] 211)).alloc (.cells #[.slice none 0 0,.int .i64 t0.p] 211);have hp:(sideL l).p=t0.p:=by rw[hl0];rfl
 have HP:=Hd hp;have hst0:SideAt w rb f1 f2 f3 f4 f5 tb l (w.heap.size+1) t0.p (.slice none 0 0) [] l ((w.alloc (.cells #[.slice none 0 0,.int .i64 0] 211)).alloc (.cells #[.slice none 0 0,.int .i64 t0.p] 211)):=by have hb1:=((Chg.refl (fun _=>False) w).alloc (.cells #[.slice none 0 0,.int .i64 0] 211)).alloc (.cells #[.slice none 0 0,.int .i64 t0.p] 211);refine⟨h.chg hb1 id (fun _ _ h=>h),?_,World.ownsRow_nil _ _ _ _,hAA,rfl,rfl⟩;have:=Blk.new (w.alloc (.cells #[.slice none 0 0,.int .i64 0] 211)) 211 #[.slice none 0 0,.int .i64 t0.p];rwa [World.size_alloc]at this
 have HST:=Hd hst0;have HRB0:=Hd ((Blk.new w 211 #[.slice none 0 0,.int .i64 0]).alloc (.cells #[.slice none 0 0,.int .i64 t0.p] 211));have hb0:=hB.cell 0;simp at hb0;obtain⟨b,off,c,cs,rfl,hla⟩:=hl;rw[hl0]at hla;obtain⟨_,_,c2⟩:=hla.head;have hltb:=hla.blk.lt;have hll:(0:Int)<(l.length:Int):=by rw[hl0,List.length_cons];omega
 clear hA hAA h hB hla hl0 hown hp hst0;go_enter Tryz.func170,Tryz.ntmps170
 go_wp2;generalize hsb:w.heap.size+1=sb at *;go_loopg [] l.length (fun n wr=>∃sv a rest,n=rest.length∧Hid (SideAt w rb f1 f2 f3 f4 f5 tb l sb t0.p sv a rest wr)∧Hid (Blk wr w.heap.size 211 #[.slice none 0 0,.int .i64 0]))
 case atStart=>exact⟨_,[],l,rfl,HST,HRB0⟩
 case round=>
  obtain⟨sv,a,rest,rfl,HS,HR⟩:=hrel;obtain⟨t,r,rfl⟩:=HS.out.stand.ended.cons;have hal:=HS.out.len;obtain⟨lvr,hB,hl,hown⟩:=HS.out.stand.ex;have h0:=hB.cell 0;simp at h0;have H1:=Hd (sym_any h0 hl);obtain⟨A,c,rfl⟩:=own_shape HS.out.own;have b0:=HS.out.blk.cell 0;have b1:=HS.out.blk.cell 1;have u0:=HS.out.blk.frozen 0;have rr0:=HR.out.cell 0;have rr1:=HR.out.cell 1;have v0:=HR.out.frozen 0;have v1:=HR.out.frozen 1;simp at b0 b1 rr0 rr1;have hsb2:=HS.out.blk.lt;cases hs:symT t with
  | true=>
   rw[hs]at H1;have HD:=Hd HS.out.drew;have HRD:=Hd (((Chg.refl (fun _=>False) wr).drew).blk HR.out id);clear hB hl hown;obtain⟨lvr,hB,hl,hown⟩:=HD.out.stand.ex;have htk:=HS.out.stand.ended.tail (sym_nz hs);have hne:lvr.ownBlock≠some rb:=by rw[hown];exact HS.out.stand.ne
   have H2:=Hd ((take_any hB hl htk.2 hne).mono fun e w1 hx=>(by have:=hx.stand htk.1 hne;rw[hown]at this;exact this:e=.returned (.agg #[.int .i64 t.k,.string (str t.s),.int .i64 t.p])∧Chg (·=rb) wr.drew w1∧Stand w1 rb f1 f2 f3 f4 f5 tb r));have HSY:=Hd hs;have HA:a.length+r.length<100000:=by simp at hal;omega
   clear hB hl h0 hown hs htk hal hne;go_wp2_with (go_at_call 167;refine H1.out.mono ?_;rintro e w' ⟨rfl,hw'⟩;replace hw':=hw'.symm;subst hw')
   go_region_law (first
    | (
      refine step_app ElTok (.tmp 15) (.tmp 18) ?_ ?_ (base:=w.heap.size) (n:=a.length) (m:=1) (N:=a.length+1) (v:=.slice A a.length c) (src:=.slice (some ⟨w1.heap.size,0,none⟩) 1 1) (xs:=a.flatMap Tk.cells) (news:=[.int .i64 t.k,.string (str t.s),.int .i64 t.p]) ?_ ?_ ?_ ?_ ?_ ?_ ?_ ?_ ?_
      ·rfl
      ·rfl
      ·rfl
      ·rfl
      ·exact HO1.out.alloc _
      ·exact src_tok w1 _ _ _
      ·rfl
      ·unfold maxLen;omega
      ·omega
      ·simp;omega
      intro A2 c2 w2 r1 r2 r3;have HF:=Hd (side_rel hlt htb (by omega) HD.out HSY.out HC1.out HS1.out r1 r2);have hk2:=r2.blk (HK1.out.alloc _) (.inr (by decide));have z0:=hk2.cell 0;have z1:=hk2.frozen 0;simp at z0;have HRF:=Hd ((r2.blk (HR1.out.alloc _) (.inr (by decide))).far (p:=⟨sb,0,none⟩) (by simp;omega) (.slice A2 (a.length+1) c2));clear r1 r2 r3 hk2)
    | (
      go_simp;go_at_call 120;refine H2.out.mono ?_;intro e w1 hx;obtain⟨rfl,hc1,hs1⟩:=hx;have HC1:=Hd hc1;have HS1:=Hd hs1;have HO1:=Hd (hc1.own HD.out.own (own_ne HD.out.own hlt));have hk:=hc1.blk HD.out.blk (by omega);have b0:=hk.cell 0;have u0:=hk.frozen 0;simp at b0;have HK1:=Hd hk;have HR1:=Hd (hc1.blk HRD.out (by omega));have hsz1:wr.heap.size≤w1.heap.size:=hc1.size;have hsz3:sb<w1.heap.size:=by omega
      clear hc1 hs1 hk))
   all_goals go_wp2
   all_goals go_roundg r.length
   all_goals first
    | (case measure=>simp)
    | (case rel=>exact⟨_,a++[t],r,rfl,HF,HRF⟩)
    | skip
  | false=>
   rw[hs]at H1;clear hB hl h0;go_wp2_with (go_at_call 167;refine H1.out.mono ?_;rintro e w' ⟨rfl,hw'⟩;replace hw':=hw'.symm;subst hw')
   refine bodyPost_ret (v:=.agg #[.slice A a.length c,.int .i64 t0.p]) (by simp[results,Tryz.results170,go_sem,rr0,rr1]) rfl ?_;have hst:=HS.out;have htw:=hst.tw;rw[List.takeWhile_cons,if_neg (by rw[hs];simp),List.append_nil]at htw;have hdw:=hst.dw;rw[List.dropWhile_cons,if_neg (by rw[hs];simp)]at hdw;have hX:Chg (·=w.heap.size) wr ((wr.setCell ⟨w.heap.size,0,none⟩ (.slice A a.length c)).setCell ⟨w.heap.size,1,none⟩ (.int .i64 t0.p)):=((Chg.refl (·=w.heap.size) wr).set (p:=⟨w.heap.size,0,none⟩) (.inr rfl) _).set (p:=⟨w.heap.size,1,none⟩) (.inr rfl) _;refine⟨A,c,?_,(hst.chg.set (p:=⟨w.heap.size,0,none⟩) (.inl (leR _)) _).set (p:=⟨w.heap.size,1,none⟩) (.inl (leR _)) _,?_,?_⟩
   ·rw[sideL_l,htw,HP.out]
   ·rw[hdw]
    exact hst.stand.chg hX (by omega) (fun g hg=>by have:=htb g hg;omega)
   ·rw[sideL_l,htw]
    refine hX.own hst.own ?_;intro g hg he;rcases own_form hst.own with⟨e,_⟩|⟨b,c,e,_,_,_,_,cur,hcur⟩
    ·rw[e]at hg;cases hg
    ·rw[e]at hg
     cases hg
     exact Blk.ne_ (t:=201) hcur HR.out (by decide) he
theorem ElIntR:El Tryz.prog 44 3 1 8:=El.of (z:=.int .i64 0) Tryz.underlying44 (by kernel_rfl) rfl (by decide)
theorem src_int(y:World)(a:Int):SrcOK (y.alloc (.cells #[.int .i64 a] 3)) (.slice (some ⟨y.heap.size,0,none⟩) 1 1) 1 1 [.int .i64 a]:=
 SrcOK.blk (c:=1) (Blk.new y 3 #[.int .i64 a]) rfl (by simp[Value.oneCell'])
theorem Chg.of_grown{w w':World}{v:Value}(h:w.grownBy w' v.ownBlock):Chg (fun k=>v.ownBlock=some k) w w':=⟨h.os,h.tape,h.output,h.size,fun k hk hx=>h.block k hk (fun e=>hx e.symm)⟩
theorem own_apart{w:World}{B1 B2:Nat}{e1 e2:TypeId}{s1 s2 n1 n2:Nat}{v1 v2:Value}{xs1 xs2:List Value}(h1:w.ownsRow B1 e1 s1 v1 n1 xs1)(h2:w.ownsRow B2 e2 s2 v2 n2 xs2)(he:e1≠e2):∀g,v1.ownBlock=some g→¬v2.ownBlock=some g:=by
 intro g hg hg2;rcases own_form h1 with⟨rfl,_⟩|⟨b,c,rfl,_,_,_,_,cur,hcur⟩
 ·cases hg
 ·cases hg
  rcases own_form h2 with⟨rfl,_⟩|⟨b2,c2,rfl,_,_,_,_,cur2,hcur2⟩
  ·cases hg2
  ·cases hg2
   exact Blk.ne_ (t:=e1) hcur hcur2 he rfl
theorem own_ge{w:World}{B:Nat}{e:TypeId}{s n:Nat}{v:Value}{xs:List Value}(h:w.ownsRow B e s v n xs):∀g,v.ownBlock=some g→B≤g∧g<w.heap.size:=by
 intro g hg;rcases own_form h with⟨rfl,_⟩|⟨b,c,rfl,h1,h2,_⟩
 ·cases hg
 ·cases hg
  exact⟨h1,h2⟩
def Mark(m:Nat):Value:=.int .i64 m
structure Heads(w:World)(B rb:Nat)(f4 f5:Value)(tb:Option Nat)(l:List Tk)(x:Txt)(dv kv sv:Value):Prop where
 stand:Stand w rb dv kv sv f4 f5 tb l
 decl:w.ownsRow B 201 3 dv x.decl.length (x.decl.flatMap Tk.cells)
 marks:w.ownsRow B 3 1 kv x.marks.length (x.marks.map Mark)
 starts:w.ownsRow B 201 3 sv x.starts.length (x.starts.flatMap Tk.cells)
 apart:∀g,dv.ownBlock=some g→¬sv.ownBlock=some g
 rbB:rb<B
 tbB:∀g,tb=some g→g<B
 bB:B≤w.heap.size
 ld:x.decl.length+l.length≤100000
 lm:x.marks.length+l.length≤100000
 ls:x.starts.length+l.length≤100000
theorem Heads.chg{X:Nat→Prop}{w w':World}{B rb:Nat}{f4 f5:Value}{tb:Option Nat}{l l':List Tk}{x:Txt}{dv kv sv:Value}(h:Heads w B rb f4 f5 tb l x dv kv sv)(hc:Chg X w w')(hx:∀k,X k→k=rb)(hs:Stand w' rb dv kv sv f4 f5 tb l')(hl:l'.length≤l.length):Heads w' B rb f4 f5 tb l' x dv kv sv where
 stand:=hs
 decl:=hc.own h.decl (fun g hg hX=>own_ne h.decl h.rbB g hg (hx g hX))
 marks:=hc.own h.marks (fun g hg hX=>own_ne h.marks h.rbB g hg (hx g hX))
 starts:=hc.own h.starts (fun g hg hX=>own_ne h.starts h.rbB g hg (hx g hX))
 apart:=h.apart
 rbB:=h.rbB
 tbB:=h.tbB
 bB:=leT h.bB hc.size
 ld:=by have:=h.ld;omega
 lm:=by have:=h.lm;omega
 ls:=by have:=h.ls;omega
theorem decl_rel{w w2:World}{o:Obj}{B rb:Nat}{f4 f5:Value}{tb:Option Nat}{l:List Tk}{x:Txt}{dv kv sv:Value}{A2:Option Addr}{c2 N:Nat}{t:Tk}(h:Heads w B rb f4 f5 tb l x dv kv sv)(hl:x.decl.length+1+l.length≤100000)(hN:N=x.decl.length+1)
  (ho:w2.ownsRow B 201 3 (.slice A2 N c2) N (x.decl.flatMap Tk.cells++t.cells)) (hg:(w.alloc o).grownBy w2 dv.ownBlock∧((Value.slice A2 N c2).ownBlock=dv.ownBlock∨(Value.slice A2 N c2).ownBlock=some (w.alloc o).heap.size)) :
  Heads (w2.setCell ⟨rb,1,none⟩ (.slice A2 N c2)) B rb f4 f5 tb l {x with decl:=x.decl++[t]} (.slice A2 N c2) kv sv∧Chg (fun k=>k=rb∨B≤k) w (w2.setCell ⟨rb,1,none⟩ (.slice A2 N c2)):=by
 have hX:Chg (fun k=>dv.ownBlock=some k) w w2:=((Chg.refl _ w).alloc o).next (.of_grown hg.1);have hOg:∀k,dv.ownBlock=some k→B≤k:=fun k hk=>(own_ge h.decl k hk).1
 have hY:Chg (fun k=>k=rb∨dv.ownBlock=some k) w (w2.setCell ⟨rb,1,none⟩ (.slice A2 N c2)):=(hX.mono (fun i hi=>.inr hi)).set (p:=⟨rb,1,none⟩) (.inr (.inl rfl)) _;have hrb:=h.rbB;obtain⟨lv,k1,k2,k3⟩:=h.stand.ex;have e1:¬dv.ownBlock=some rb:=fun e=>by have:=hOg _ e;omega
 refine⟨⟨⟨⟨lv,by simpa using(hX.blk k1 e1).set_ 1 _,k2.chg hY ?_,k3⟩,h.stand.ended,h.stand.ne⟩,?d,?k,?s,?_,h.rbB,h.tbB,leT h.bB hY.size,?_,?_,?_⟩,hY.mono ?_⟩
 ·intro g hgg
  rw[k3]at hgg;rintro(rfl|hh)
  ·exact h.stand.ne hgg
  ·have:=h.tbB g hgg;have:=hOg g hh;omega
 case d=>rw[show (x.decl++[t]).length=N by rw[hN];simp,List.flatMap_append];exact own_far (by simpa [Tk.cells] using ho) (fun e=>own_ne ho hrb _ e rfl) _
 case k=>
  refine hY.own h.marks ?_;rintro g hgg (rfl|hh)
  ·exact own_ne h.marks hrb _ hgg rfl
  ·exact own_apart h.decl h.marks (by decide) g hh hgg
 case s=>
  refine hY.own h.starts ?_;rintro g hgg (rfl|hh)
  ·exact own_ne h.starts hrb _ hgg rfl
  ·exact h.apart g hh hgg
 ·intro g hgg hsg
  rcases hg.2 with e|e
  ·rw[e]at hgg;exact h.apart g hgg hsg
  ·rw[e]at hgg;cases hgg;have:=(own_ge h.starts _ hsg).2;simp at this;omega
 ·have:=h.ld;simp at this ⊢;omega
 ·have:=h.lm;simp at this ⊢;omega
 ·have:=h.ls;simp at this ⊢;omega
 ·rintro i (hi|hi)
  ·exact .inl hi
  ·exact .inr (hOg i hi)
theorem marks_rel{w w2:World}{o:Obj}{B rb:Nat}{f4 f5:Value}{tb:Option Nat}{l:List Tk}{x:Txt}{dv kv sv:Value}{A2:Option Addr}{c2 N:Nat}{m:Nat}(h:Heads w B rb f4 f5 tb l x dv kv sv)(hl:x.marks.length+1+l.length≤100000)(hN:N=x.marks.length+1)
  (ho:w2.ownsRow B 3 1 (.slice A2 N c2) N (x.marks.map Mark++[Mark m])) (hg:(w.alloc o).grownBy w2 kv.ownBlock∧((Value.slice A2 N c2).ownBlock=kv.ownBlock∨(Value.slice A2 N c2).ownBlock=some (w.alloc o).heap.size)) :
  Heads (w2.setCell ⟨rb,2,none⟩ (.slice A2 N c2)) B rb f4 f5 tb l {x with marks:=x.marks++[m]} dv (.slice A2 N c2) sv∧Chg (fun k=>k=rb∨B≤k) w (w2.setCell ⟨rb,2,none⟩ (.slice A2 N c2)):=by
 have hX:Chg (fun k=>kv.ownBlock=some k) w w2:=((Chg.refl _ w).alloc o).next (.of_grown hg.1);have hOg:∀k,kv.ownBlock=some k→B≤k:=fun k hk=>(own_ge h.marks k hk).1
 have hY:Chg (fun k=>k=rb∨kv.ownBlock=some k) w (w2.setCell ⟨rb,2,none⟩ (.slice A2 N c2)):=(hX.mono (fun i hi=>.inr hi)).set (p:=⟨rb,2,none⟩) (.inr (.inl rfl)) _;have hrb:=h.rbB;obtain⟨lv,k1,k2,k3⟩:=h.stand.ex;have e1:¬kv.ownBlock=some rb:=fun e=>by have:=hOg _ e;omega
 refine⟨⟨⟨⟨lv,by simpa using(hX.blk k1 e1).set_ 2 _,k2.chg hY ?_,k3⟩,h.stand.ended,h.stand.ne⟩,?d,?k,?s,?_,h.rbB,h.tbB,leT h.bB hY.size,?_,?_,?_⟩,hY.mono ?_⟩
 ·intro g hgg
  rw[k3]at hgg;rintro(rfl|hh)
  ·exact h.stand.ne hgg
  ·have:=h.tbB g hgg;have:=hOg g hh;omega
 case k=>rw[show (x.marks++[m]).length=N by rw[hN];simp,mpA];exact own_far (by simpa [Mark] using ho) (fun e=>own_ne ho hrb _ e rfl) _
 case d=>
  refine hY.own h.decl ?_;rintro g hgg (rfl|hh)
  ·exact own_ne h.decl hrb _ hgg rfl
  ·exact own_apart h.marks h.decl (by decide) g hh hgg
 case s=>
  refine hY.own h.starts ?_;rintro g hgg (rfl|hh)
  ·exact own_ne h.starts hrb _ hgg rfl
  ·exact own_apart h.marks h.starts (by decide) g hh hgg
 ·exact h.apart
 ·have:=h.ld;simp at this ⊢;omega
 ·have:=h.lm;simp at this ⊢;omega
 ·have:=h.ls;simp at this ⊢;omega
 ·rintro i (hi|hi)
  ·exact .inl hi
  ·exact .inr (hOg i hi)
theorem starts_rel{w w2:World}{o:Obj}{B rb:Nat}{f4 f5:Value}{tb:Option Nat}{l:List Tk}{x:Txt}{dv kv sv:Value}{A2:Option Addr}{c2 N:Nat}{t:Tk}(h:Heads w B rb f4 f5 tb l x dv kv sv)(hl:x.starts.length+1+l.length≤100000)(hN:N=x.starts.length+1)
  (ho:w2.ownsRow B 201 3 (.slice A2 N c2) N (x.starts.flatMap Tk.cells++t.cells)) (hg:(w.alloc o).grownBy w2 sv.ownBlock∧((Value.slice A2 N c2).ownBlock=sv.ownBlock∨(Value.slice A2 N c2).ownBlock=some (w.alloc o).heap.size)) :
  Heads (w2.setCell ⟨rb,3,none⟩ (.slice A2 N c2)) B rb f4 f5 tb l {x with starts:=x.starts++[t]} dv kv (.slice A2 N c2)∧Chg (fun k=>k=rb∨B≤k) w (w2.setCell ⟨rb,3,none⟩ (.slice A2 N c2)):=by
 have hX:Chg (fun k=>sv.ownBlock=some k) w w2:=((Chg.refl _ w).alloc o).next (.of_grown hg.1);have hOg:∀k,sv.ownBlock=some k→B≤k:=fun k hk=>(own_ge h.starts k hk).1
 have hY:Chg (fun k=>k=rb∨sv.ownBlock=some k) w (w2.setCell ⟨rb,3,none⟩ (.slice A2 N c2)):=(hX.mono (fun i hi=>.inr hi)).set (p:=⟨rb,3,none⟩) (.inr (.inl rfl)) _;have hrb:=h.rbB;obtain⟨lv,k1,k2,k3⟩:=h.stand.ex;have e1:¬sv.ownBlock=some rb:=fun e=>by have:=hOg _ e;omega
 refine⟨⟨⟨⟨lv,by simpa using(hX.blk k1 e1).set_ 3 _,k2.chg hY ?_,k3⟩,h.stand.ended,h.stand.ne⟩,?d,?k,?s,?_,h.rbB,h.tbB,leT h.bB hY.size,?_,?_,?_⟩,hY.mono ?_⟩
 ·intro g hgg
  rw[k3]at hgg;rintro(rfl|hh)
  ·exact h.stand.ne hgg
  ·have:=h.tbB g hgg;have:=hOg g hh;omega
 case s=>rw[show (x.starts++[t]).length=N by rw[hN];simp,List.flatMap_append];exact own_far (by simpa [Tk.cells] using ho) (fun e=>own_ne ho hrb _ e rfl) _
 case d=>
  refine hY.own h.decl ?_;rintro g hgg (rfl|hh)
  ·exact own_ne h.decl hrb _ hgg rfl
  ·exact h.apart g hgg hh
 case k=>
  refine hY.own h.marks ?_;rintro g hgg (rfl|hh)
  ·exact own_ne h.marks hrb _ hgg rfl
  ·exact own_apart h.starts h.marks (by decide) g hh hgg
 ·intro g hgg hsg
  rcases hg.2 with e|e
  ·rw[e]at hsg;exact h.apart g hgg hsg
  ·rw[e]at hsg;cases hsg;have:=(own_ge h.decl _ hgg).2;simp at this;omega
 ·have:=h.ld;simp at this ⊢;omega
 ·have:=h.lm;simp at this ⊢;omega
 ·have:=h.ls;simp at this ⊢;omega
 ·rintro i (hi|hi)
  ·exact .inl hi
  ·exact .inr (hOg i hi)
def TakeEnd(w:World)(rb:Nat)(f1 f2 f3 f4 f5:Value)(tb:Option Nat)(t:Tk)(r:List Tk)(e:Ending)(w':World):Prop:=
 e=.returned (.agg #[.int .i64 t.k,.string (str t.s),.int .i64 t.p])∧Chg (·=rb) w w'∧Stand w' rb f1 f2 f3 f4 f5 tb r
namespace Stand
variable {w:World} {rb:Nat} {f1 f2 f3 f4 f5:Value} {tb:Option Nat} {t:Tk} {r l:List Tk}
theorem is(h:Stand w rb f1 f2 f3 f4 f5 tb (t::r))(k:Nat)(K:Int)(hK:K=(k:Int)):Calls Tryz.prog 118 #[.pointer (some ⟨rb,0,none⟩),.int .i64 K] w fun e w'=>e=.returned (.bool (t.k==k))∧w=w':=by subst hK;obtain⟨lv,hB,hl,_⟩:=h.ex;exact(is_any (hB.cell 0) hl k).mono fun e w' ⟨h1,h2⟩=>⟨h1,h2.symm⟩
theorem sym(h:Stand w rb f1 f2 f3 f4 f5 tb (t::r)):Calls Tryz.prog 167 #[.pointer (some ⟨rb,0,none⟩)] w fun e w'=>e=.returned (.bool (symT t))∧w=w':=by obtain⟨lv,hB,hl,_⟩:=h.ex;exact(sym_any (hB.cell 0) hl).mono fun e w' ⟨h1,h2⟩=>⟨h1,h2.symm⟩
theorem bad(h:Stand w rb f1 f2 f3 f4 f5 tb (t::r)):Calls Tryz.prog 168 #[.pointer (some ⟨rb,0,none⟩)] w fun e w'=>e=.panicked [{v:=.iface 134 (.agg #[.int .i64 (badT (t::r)).1,.int .i64 (badT (t::r)).2]),recovered:=false}]∧w=w':=by obtain⟨lv,hB,hl,_⟩:=h.ex;exact(bad_any (hB.cell 0) hl).mono fun e w' ⟨h1,h2⟩=>⟨h1,h2.symm⟩
theorem take(h:Stand w rb f1 f2 f3 f4 f5 tb (t::r))(hk:t.k≠0):Calls Tryz.prog 120 #[.pointer (some ⟨rb,0,none⟩)] w (TakeEnd w rb f1 f2 f3 f4 f5 tb t r):=by
 obtain⟨lv,hB,hl,ho⟩:=h.ex;obtain⟨h1,h2⟩:=h.ended.tail hk;have hne:lv.ownBlock≠some rb:=by rw[ho];exact h.ne
 refine(take_any hB hl h2 hne).mono fun e w' hx=>?_
 have:=hx.stand h1 hne;rw[ho]at this;exact this
theorem want(h:Stand w rb f1 f2 f3 f4 f5 tb (t::r))(k:Nat)(K:Int)(hK:K=(k:Int))(hk:t.k=k)(h0:k≠0):Calls Tryz.prog 169 #[.pointer (some ⟨rb,0,none⟩),.int .i64 K] w (TakeEnd w rb f1 f2 f3 f4 f5 tb t r):=by
 subst hK;obtain⟨lv,hB,hl,ho⟩:=h.ex;obtain⟨h1,h2⟩:=h.ended.tail (hk▸h0);have hne:lv.ownBlock≠some rb:=by rw[ho];exact h.ne
 refine(want_yes hB hl h2 hne k (by simp[hk])).mono fun e w' hx=>?_
 have:=hx.stand h1 hne;rw[ho]at this;exact this
theorem wantNo(h:Stand w rb f1 f2 f3 f4 f5 tb (t::r))(k:Nat)(K:Int)(hK:K=(k:Int))(hk:t.k≠k):Calls Tryz.prog 169 #[.pointer (some ⟨rb,0,none⟩),.int .i64 K] w fun e w'=>e=.panicked [{v:=.iface 134 (.agg #[.int .i64 (badT (t::r)).1,.int .i64 (badT (t::r)).2]),recovered:=false}]∧Below w.heap.size w w':=by subst hK;obtain⟨lv,hB,hl,_⟩:=h.ex;exact want_no (hB.cell 0) hl k (by simp[hk])
theorem drew(h:Stand w rb f1 f2 f3 f4 f5 tb l):Stand w.drew rb f1 f2 f3 f4 f5 tb l:=h.chg ((Chg.refl (fun _=>False) w).drew) id (fun _ _=>id)
theorem cells(h:Stand w rb f1 f2 f3 f4 f5 tb l):w.cell? ⟨rb,1,none⟩=some f1∧w.cell? ⟨rb,2,none⟩=some f2∧w.cell? ⟨rb,3,none⟩=some f3∧w.cell? ⟨rb,4,none⟩=some f4∧w.cell? ⟨rb,5,none⟩=some f5∧rb<w.heap.size:=by obtain⟨lv,hB,hl,_⟩:=h.ex;exact⟨hB.cell 1,hB.cell 2,hB.cell 3,hB.cell 4,hB.cell 5,hB.lt⟩
theorem frozen(h:Stand w rb f1 f2 f3 f4 f5 tb l)(k:Nat):w.frozen? ⟨rb,k,none⟩=false:=by obtain⟨lv,hB,hl,_⟩:=h.ex;exact hB.frozen k
end Stand
theorem Heads.drew{w:World}{B rb:Nat}{f4 f5:Value}{tb:Option Nat}{l:List Tk}{x:Txt}{dv kv sv:Value}(h:Heads w B rb f4 f5 tb l x dv kv sv):Heads w.drew B rb f4 f5 tb l x dv kv sv:=
 h.chg ((Chg.refl (fun _=>False) w).drew) (fun _ h=>h.elim) h.stand.drew (leR _)
theorem Heads.ex{w:World}{B rb:Nat}{f4 f5:Value}{tb:Option Nat}{l:List Tk}{x:Txt}{dv kv sv:Value}(h:Heads w B rb f4 f5 tb l x dv kv sv):∃A1 c1 A2 c2 A3 c3,dv=.slice A1 x.decl.length c1∧kv=.slice A2 x.marks.length c2∧sv=.slice A3 x.starts.length c3:=by obtain⟨A1,c1,h1⟩:=own_shape h.decl;obtain⟨A2,c2,h2⟩:=own_shape h.marks;obtain⟨A3,c3,h3⟩:=own_shape h.starts;exact⟨A1,c1,A2,c2,A3,c3,h1,h2,h3⟩
theorem Heads.grown{w w2:World}{o:Obj}{B rb:Nat}{f4 f5 v:Value}{tb:Option Nat}{l:List Tk}{x:Txt}{dv kv sv:Value}(h:Heads w B rb f4 f5 tb l x dv kv sv)(hv:∀k,v.ownBlock=some k→B≤k∧k<w.heap.size)(hg:(w.alloc o).grownBy w2 v.ownBlock):Stand w2 rb dv kv sv f4 f5 tb l:=by
 refine h.stand.chg (((Chg.refl _ w).alloc o).next (.of_grown hg)) (fun e=>?_) (fun g hgg e=>?_)
 ·have:=(hv _ e).1;have:=h.rbB;omega
 ·have:=(hv _ e).1;have:=h.tbB _ hgg;omega
def HeadEnd(w:World)(B rb:Nat)(f4 f5:Value)(tb:Option Nat)(x:Txt)(l:List Tk)(e:Ending)(w':World):Prop:=
 Chg (fun k=>k=rb∨B≤k) w w'∧match headL x l with
 | .ok (x',l')=>e=.returned (.tuple #[])∧∃dv kv sv,Heads w' B rb f4 f5 tb l' x' dv kv sv
 | .error f=>Gives f e
theorem tok_at(k p:Int)(s:ByteArray)(w:World):(Instr.field 201 (.agg #[.int .i64 k,.string s,.int .i64 p]) 2).run Tryz.prog w=.ok (.int .i64 p) w:=by kernel_rfl
set_option maxRecDepth 100000 in
set_option maxHeartbeats 3200000 in
theorem head_any{w:World}{B rb:Nat}{f4 f5:Value}{tb:Option Nat}{l:List Tk}{x:Txt}{dv kv sv:Value}(h:Heads w B rb f4 f5 tb l x dv kv sv):Calls Tryz.prog 119 #[.pointer (some ⟨rb,0,none⟩)] w (HeadEnd w B rb f4 f5 tb x l):=by
 obtain⟨t,r,rfl⟩:=h.stand.ended.cons;obtain⟨A1,c1,A2,c2,A3,c3,rfl,rfl,rfl⟩:=h.ex;have H7:=Hd (h.stand.is 7 7 rfl);have H8:=Hd (h.stand.is 8 8 rfl);have HBAD:=Hd h.stand.bad;have hrbB:=h.rbB;by_cases h7:t.k=7
 ·have hk:(t.k==7)=true:=by simp[h7]
  rw[hk]at H7;have HT:=Hd (h.stand.take (by omega));obtain⟨t2,r2,rfl⟩:=(h.stand.ended.tail (by omega)).1.cons;have HH:=Hd h;cases h2:symT t2 with
  | false=>
   have HE:Hid (headL x (t::t2::r2)=.error (badT (t2::r2))):=Hd (by simp[headL,h7,h2]);have HS2:=Hd h2;clear h h7 h2 hk;go_enter Tryz.func119,Tryz.ntmps119
   go_wp2_with (first
    | (go_at_call 118;with_reducible refine H7.out.mono ?_;rintro e w' ⟨rfl,hw'⟩;subst hw')
    | (go_at_call 120;refine HT.out.mono ?_;intro e w1 hx;obtain⟨rfl,hc1,hs1⟩:=hx;have HC1:=Hd hc1;have HY:=Hd (HS2.out▸hs1.sym);have HB2:=Hd hs1.bad;clear hc1 hs1)
    | (go_at_call 167;refine HY.out.mono ?_;rintro e w' ⟨rfl,hw'⟩;subst hw')
    | (go_at_call 168;refine HB2.out.mono ?_;rintro e w' ⟨rfl,hw'⟩;subst hw'))
   refine⟨rfl,HC1.out.mono (fun _ h=>.inl h),?_⟩;rw[HE.out];exact Gives.of rfl rfl
  | true=>
   have HE:Hid (headL x (t::t2::r2)=.ok ({x with decl:=x.decl++(t2::r2).takeWhile symT},(t2::r2).dropWhile symT)):=Hd (by simp[headL,h7,h2]);have HS2:=Hd h2;have HN:Hid (t2::r2≠[]):=Hd (by simp);have HLEN:Hid (x.decl.length+(t2::r2).length≤100000):=Hd (by have:=h.ld;simp at this ⊢;omega);clear h7 hk;go_enter Tryz.func119,Tryz.ntmps119
   go_wp2_with (first
    | (go_at_call 118;with_reducible refine H7.out.mono ?_;rintro e w' ⟨rfl,hw'⟩;subst hw')
    | (go_at_call 120;refine HT.out.mono ?_;intro e w1 hx;obtain⟨rfl,hc1,hs1⟩:=hx;have HC1:=Hd hc1;have HY:=Hd (h2▸hs1.sym);have HH1:=Hd (HH.out.chg hc1 (fun _ h=>h) hs1 (by simp));clear hc1 hs1 h h2)
    | (go_at_call 167;refine HY.out.mono ?_;rintro e w' ⟨rfl,hw'⟩;subst hw'))
   have hw1:B≤w1.heap.size:=HH1.out.bB;go_loopg [] (t2::r2).length (fun n wr=>∃dv a rest,n=rest.length∧Hid (Heads wr B rb f4 f5 tb rest {x with decl:=x.decl++a} dv (.slice A2 x.marks.length c2) (.slice A3 x.starts.length c3))∧Hid (Chg (fun k=>k=rb∨B≤k) w wr)∧Hid ((t2::r2).takeWhile symT=a++rest.takeWhile symT∧(t2::r2).dropWhile symT=rest.dropWhile symT))
   case atStart=>
    have hst:Heads w1 B rb f4 f5 tb (t2::r2) {x with decl:=x.decl++[]} (.slice A1 x.decl.length c1) (.slice A2 x.marks.length c2) (.slice A3 x.starts.length c3):=by rw[List.append_nil];exact HH1.out
    exact⟨.slice A1 x.decl.length c1,[],t2::r2,rfl,Hd hst,Hd (HC1.out.mono (fun _ h=>.inl h)),Hd ⟨rfl,rfl⟩⟩
   case round=>
    obtain⟨dv,a,rest,rfl,HR,HC,HTD⟩:=hrel;obtain⟨t3,r3,rfl⟩:=HR.out.stand.ended.cons;obtain⟨A,c,hdv⟩:=own_shape HR.out.decl;generalize hnn:(x.decl++a).length=n at *;have hdl:=HR.out.ld;have hnl:({x with decl:=x.decl++a}:Txt).decl.length=n:=hnn;simp at hdl hnn;subst hdv;have HY3:=Hd HR.out.stand.sym;have hrbw:=HR.out.bB;cases h3:symT t3 with
    | false=>
     rw[h3]at HY3;go_wp2_with (go_at_call 167;refine HY3.out.mono ?_;rintro e w' ⟨rfl,hw'⟩;subst hw')
     refine bodyPost_ret (results_none rfl _ _ _) rfl ⟨HC.out,?_⟩;rw[HE.out];have h1:=HTD.out.1;have h2:=HTD.out.2;rw[List.takeWhile_cons (a:=t3),if_neg (by rw[h3];simp),List.append_nil]at h1;rw[List.dropWhile_cons (x:=t3),if_neg (by rw[h3];simp)]at h2;rw[h1,h2];exact⟨rfl,_,_,_,HR.out⟩
    | true=>
     rw[h3]at HY3;have HRD:=Hd HR.out.drew;have HT3:=Hd (HRD.out.stand.take (sym_nz h3));have HS3:=Hd h3;obtain⟨b1,_,_,_,_,_⟩:=HRD.out.stand.cells;clear h3;go_wp2_with (go_at_call 167;refine HY3.out.mono ?_;rintro e w' ⟨rfl,hw'⟩;subst hw')
     go_region_law (first
       | (
         refine step_app ElTok (.tmp 20) (.tmp 23) ?_ ?_ (base:=B) (n:=n) (m:=1) (N:=n+1) (v:=.slice A n c) (src:=.slice (some ⟨w3.heap.size,0,none⟩) 1 1) (xs:=(x.decl++a).flatMap Tk.cells) (news:=t3.cells) ?_ ?_ ?_ ?_ ?_ ?_ ?_ ?_ ?_
         · rfl
         · rfl
         · rfl
         · rfl
         · have:=HH3.out.decl
           rw[hnl]at this;exact this.alloc _
         · exact src_tok w3 _ _ _
         · rfl
         · unfold maxLen;omega
         · omega
         · simp;omega
         intro A4 c4 w4 q1 q2 q3;have HF:=Hd (decl_rel HH3.out (by simp;omega) (by simp;omega) q1 q3);have hs4:=HH3.out.grown (own_ge HH3.out.decl) q3.1;obtain⟨cA,_,_,_,_,_⟩:=hs4.cells;have vA:=hs4.frozen 1;clear q1 q2 q3 hs4)
       | (
         go_simp;go_at_call 120;refine HT3.out.mono ?_;intro e w3 hx;obtain⟨rfl,hc3,hs3⟩:=hx;have HC3:=Hd hc3;have HH3:=Hd (HRD.out.chg hc3 (fun _ h=>h) hs3 (by simp));obtain⟨d1,_,_,_,_,hrb3⟩:=hs3.cells;have v1:=hs3.frozen 1;have hsz3:wr.heap.size≤w3.heap.size:=hc3.size;clear hc3 hs3))
     all_goals go_wp2
     all_goals go_roundg r3.length
     all_goals first
       | (case measure=>simp)
       | (case rel=>
          refine⟨.slice A4 (n+1) c4,a++[t3],r3,rfl,Hd ?_,Hd ?_,Hd ?_⟩
          · have:=HF.out.1
            rw[List.append_assoc]at this;exact this
          · exact(HC.out.drew.next (HC3.out.mono (fun _ h=>.inl h))).next HF.out.2
          · have h1:=HTD.out.1
            have h2:=HTD.out.2;rw[List.takeWhile_cons (a:=t3),if_pos HS3.out]at h1;rw[List.dropWhile_cons (x:=t3),if_pos HS3.out]at h2;exact⟨by rw[h1];simp,h2⟩)
 ·have hk:(t.k==7)=false:=by simp[h7]
  rw[hk]at H7;by_cases h8:t.k=8
  ·have hk8:(t.k==8)=true:=by simp[h8]
   rw[hk8]at H8;obtain⟨t2,r2,rfl⟩:=(h.stand.ended.tail (by omega)).1.cons;have HD:=Hd h.drew;have HT:=Hd (HD.out.stand.take (by omega));obtain⟨_,b2,_,_,_,hrbw⟩:=HD.out.stand.cells;have hlm:=h.lm;have hls:=h.ls;simp at hlm hls;have hBw:=h.bB;have HE1:Hid (t2.k=1→headL x (t::t2::r2)=.ok ({x with marks:=x.marks++[t.p],starts:=x.starts++[t2]},r2)):=Hd (fun e=>by simp[headL,h8,isK,e]);have HE2:Hid (t2.k≠1→headL x (t::t2::r2)=.error (badT (t2::r2))):=Hd (fun e=>by simp[headL,h8,isK,e]);have hfd:=tok_at t.k t.p (str t.s);clear h h7 h8 hk hk8;go_enter Tryz.func119,Tryz.ntmps119
   go_wp2_with (first
    | (go_at_call 118;with_reducible refine H7.out.mono ?_;rintro e w' ⟨rfl,hw'⟩;subst hw')
    | (go_at_call 118;with_reducible refine H8.out.mono ?_;rintro e w' ⟨rfl,hw'⟩;subst hw'))
   go_region_law (first
    | (
      refine step_app ElIntR (.tmp 34) (.tmp 38) ?_ ?_ (base:=B) (n:=x.marks.length) (m:=1) (N:=x.marks.length+1) (v:=.slice A2 x.marks.length c2) (src:=.slice (some ⟨w3.heap.size,0,none⟩) 1 1) (xs:=x.marks.map Mark) (news:=[Mark t.p]) ?_ ?_ ?_ ?_ ?_ ?_ ?_ ?_ ?_
      · rfl
      · rfl
      · rfl
      · rfl
      · exact HH3.out.marks.alloc _
      · exact src_int w3 _
      · rfl
      · unfold maxLen;omega
      · omega
      · simp;omega
      intro A4 c4 w4 q1 q2 q3;have HF:=Hd (marks_rel HH3.out (by simp;omega) (by simp) q1 q3);have hs4:=HH3.out.grown (own_ge HH3.out.marks) q3.1;obtain⟨_,cA,_,_,_,_⟩:=hs4.cells;have vA:=hs4.frozen 2;clear q1 q2 q3 hs4)
    | (
      go_simp;go_at_call 120;refine HT.out.mono ?_;intro e w3 hx;obtain⟨rfl,hc3,hs3⟩:=hx;have HC3:=Hd hc3;have HH3:=Hd (HD.out.chg hc3 (fun _ h=>h) hs3 (by simp));obtain⟨_,d2,_,_,_,hrb3⟩:=hs3.cells;have v1:=hs3.frozen 2;have hsz3:w.heap.size≤w3.heap.size:=hc3.size;clear hc3 hs3))
   all_goals go_wp2
   all_goals generalize hw5:World.setCell w4 ⟨rb,2,none⟩ (.slice A4 (x.marks.length+1) c4)=w5 at *
   all_goals clear b2 d2 v1 cA vA hw5
   all_goals have HF2:=Hd HF.out.1.drew
   all_goals have HCF:=Hd ((((Chg.refl (fun k=>k=rb∨B≤k) w).drew.next (HC3.out.mono (fun _ h=>.inl h))).next HF.out.2).drew)
   all_goals have hB5:=HF.out.1.bB
   all_goals have hld:=HF.out.1.ld
   all_goals simp at hld
   all_goals obtain⟨_,_,b3,_,_,hrb5⟩:=HF2.out.stand.cells
   all_goals by_cases hk1:t2.k=1
   all_goals first
    | (
      have HW:=Hd (HF2.out.stand.want 1 1 rfl hk1 (by omega));replace HE1:=Hd (HE1.out hk1);clear hk1 HE2;go_region_law (first
        | (
          refine step_app ElTok (.tmp 46) (.tmp 49) ?_ ?_ (base:=B) (n:=x.starts.length) (m:=1) (N:=x.starts.length+1) (v:=.slice A3 x.starts.length c3) (src:=.slice (some ⟨w6.heap.size,0,none⟩) 1 1) (xs:=x.starts.flatMap Tk.cells) (news:=t2.cells) ?_ ?_ ?_ ?_ ?_ ?_ ?_ ?_ ?_
          · rfl
          · rfl
          · rfl
          · rfl
          · exact HH6.out.starts.alloc _
          · exact src_tok w6 _ _ _
          · rfl
          · unfold maxLen;omega
          · omega
          · simp;omega
          intro A6 c6 w7 q1 q2 q3;have HG:=Hd (starts_rel HH6.out (by simp;omega) (by simp) q1 q3);have hs4:=HH6.out.grown (own_ge HH6.out.starts) q3.1;obtain⟨_,_,cA,_,_,_⟩:=hs4.cells;have vA:=hs4.frozen 3;clear q1 q2 q3 hs4)
        | (
          go_simp;go_at_call 169;refine HW.out.mono ?_;intro e w6 hx;obtain⟨rfl,hc3,hs3⟩:=hx;have HC6:=Hd hc3;have HH6:=Hd (HF2.out.chg hc3 (fun _ h=>h) hs3 (by simp));obtain⟨_,_,d2,_,_,hrb3⟩:=hs3.cells;have v1:=hs3.frozen 3;have hsz6:w5.heap.size≤w6.heap.size:=hc3.size;clear hc3 hs3))
      all_goals go_wp2
      all_goals refine bodyPost_ret (results_none rfl _ _ _) rfl ⟨(HCF.out.next (HC6.out.mono (fun _ h=>.inl h))).next HG.out.2,?_⟩
      all_goals rw[HE1.out]
      all_goals exact⟨rfl,_,_,_,HG.out.1⟩)
    | (
      have HW:=Hd (HF2.out.stand.wantNo 1 1 rfl hk1);replace HE2:=Hd (HE2.out hk1);clear hk1 HE1
      go_region_dies
      all_goals (refine HW.out.mono ?_;rintro e w6 ⟨rfl,hb6⟩;exact⟨rfl,HCF.out.next (.of_below hb6),by rw[HE2.out];exact Gives.of rfl rfl⟩))
  ·have hk8:(t.k==8)=false:=by simp[h8]
   rw[hk8]at H8;have HE:Hid (headL x (t::r)=.error (badT (t::r))):=Hd (by simp[headL,h7,h8]);clear h h7 h8 hk hk8;go_enter Tryz.func119,Tryz.ntmps119
   go_wp2_with (first
    | (go_at_call 118;with_reducible refine H7.out.mono ?_;rintro e w' ⟨rfl,hw'⟩;subst hw')
    | (go_at_call 118;with_reducible refine H8.out.mono ?_;rintro e w' ⟨rfl,hw'⟩;subst hw')
    | (go_at_call 168;refine HBAD.out.mono ?_;rintro e w' ⟨rfl,hw'⟩;subst hw'))
   refine⟨rfl,Chg.refl _ _,?_⟩;rw[HE.out];exact Gives.of rfl rfl
theorem own_mono{w:World}{B B':Nat}{e:TypeId}{size n:Nat}{v:Value}{xs:List Value}(h:w.ownsRow B e size v n xs)(hB:B'≤B):w.ownsRow B' e size v n xs:=by
 refine⟨h.1,?_⟩;rcases h.2 with hn|⟨g,cap,cur,rfl,hb,rest⟩
 ·exact .inl hn
 ·exact .inr ⟨g,cap,cur,rfl,leT hB hb,rest⟩
structure GS where
 s:PS
 v:Value
def GS.cells(q:GS):List Value:=[q.v,.int .i64 q.s.p]
structure GRu where
 left:Tk
 v:Value
 ss:List GS
def GRu.cells(r:GRu):List Value:=[.int .i64 r.left.k,.string (str r.left.s),.int .i64 r.left.p,r.v]
def GRu.r(r:GRu):PR:=⟨r.left,r.ss.map GS.s⟩
def GoodS(w:World)(B:Nat)(q:GS):Prop:=w.ownsRow B 201 3 q.v q.s.l.length (q.s.l.flatMap Tk.cells)
def GoodR(w:World)(B:Nat)(r:GRu):Prop:=w.ownsRow B 211 2 r.v r.ss.length (r.ss.flatMap GS.cells)∧∀q∈r.ss,GoodS w B q
theorem GoodS.chg{X:Nat→Prop}{w w':World}{B:Nat}{q:GS}(h:GoodS w B q)(hc:Chg X w w')(hx:∀g,B≤g→g<w.heap.size→¬X g):GoodS w' B q:=
 hc.own h (fun g hg=>hx g (own_ge h g hg).1 (own_ge h g hg).2)
theorem GoodR.chg{X:Nat→Prop}{w w':World}{B:Nat}{r:GRu}(h:GoodR w B r)(hc:Chg X w w')(hx:∀g,B≤g→g<w.heap.size→¬X g):GoodR w' B r:=
 ⟨hc.own h.1 (fun g hg=>hx g (own_ge h.1 g hg).1 (own_ge h.1 g hg).2),fun q hq=>(h.2 q hq).chg hc hx⟩
theorem ElSide:El Tryz.prog 206 211 2 32:=El.of (z:=.agg #[.slice none 0 0,.int .i64 0]) Tryz.underlying206 (by kernel_rfl) rfl (by decide)
theorem ElRule:El Tryz.prog 138 208 4 56:=El.of (z:=.agg #[.int .i64 0,.string ⟨#[]⟩,.int .i64 0,.slice none 0 0]) Tryz.underlying138 (by kernel_rfl) rfl (by decide)
theorem src_side(y:World)(A:Option Addr)(n c:Nat)(p:Int):SrcOK (y.alloc (.cells #[.slice A n c,.int .i64 p] 211)) (.slice (some ⟨y.heap.size,0,none⟩) 1 1) 1 2 [.slice A n c,.int .i64 p]:=
 SrcOK.blk (c:=1) (Blk.new y 211 #[.slice A n c,.int .i64 p]) rfl (by simp[Value.oneCell'])
structure SidesAt(w:World)(rb:Nat)(f1 f2 f3 f4 f5:Value)(tb:Option Nat)(bb:Nat)(t:Tk)(sv:Value)(ss:List GS)(rest:List Tk)(wr:World):Prop where
 stand:Stand wr rb f1 f2 f3 f4 f5 tb rest
 blk:Blk wr bb 208 #[.int .i64 t.k,.string (str t.s),.int .i64 t.p,sv]
 own:wr.ownsRow w.heap.size 211 2 sv ss.length (ss.flatMap GS.cells)
 good:∀q∈ss,GoodS wr w.heap.size q
 chg:Chg (·=rb) w wr
 bb:w.heap.size≤bb
 rb:rb<w.heap.size
 tb:∀g,tb=some g→g<w.heap.size
namespace SidesAt
variable {w wr:World} {rb:Nat} {f1 f2 f3 f4 f5:Value} {tb:Option Nat} {bb:Nat} {t:Tk} {sv:Value} {ss:List GS} {rest:List Tk}
theorem later(h:SidesAt w rb f1 f2 f3 f4 f5 tb bb t sv ss rest wr){w1:World}{r1:List Tk}(hc:Chg (·=rb) wr w1)(hs:Stand w1 rb f1 f2 f3 f4 f5 tb r1):SidesAt w rb f1 f2 f3 f4 f5 tb bb t sv ss r1 w1:=by have hrb:=h.rb;have hbb:=h.bb;exact⟨hs,hc.blk h.blk (by omega),hc.own h.own (own_ne h.own h.rb),fun q hq=>(h.good q hq).chg hc (fun g h1 _ e=>by omega),h.chg.next hc,h.bb,h.rb,h.tb⟩
theorem drew(h:SidesAt w rb f1 f2 f3 f4 f5 tb bb t sv ss rest wr):SidesAt w rb f1 f2 f3 f4 f5 tb bb t sv ss rest wr.drew:=h.later ((Chg.refl _ _).drew) h.stand.drew
theorem rel(h:SidesAt w rb f1 f2 f3 f4 f5 tb bb t sv ss rest wr){w1 w2:World}{A A2:Option Addr}{c c2:Nat}(hn:A2=A2)
  (hc1:Chg (·=rb) wr w1) (hs1:Stand w1 rb f1 f2 f3 f4 f5 tb (rest.dropWhile symT)) (ho1:w1.ownsRow wr.heap.size 201 3 (.slice A (sideL rest).l.length c) (sideL rest).l.length ((sideL rest).l.flatMap Tk.cells))
  (r1:w2.ownsRow w.heap.size 211 2 (.slice A2 (ss.length+1) c2) (ss.length+1) (ss.flatMap GS.cells++[.slice A (sideL rest).l.length c,.int .i64 (sideL rest).p]))
  (r2:Keeps w.heap.size [211] (w1.alloc (.cells #[.slice A (sideL rest).l.length c,.int .i64 (sideL rest).p] 211)) w2) :
  SidesAt w rb f1 f2 f3 f4 f5 tb bb t (.slice A2 (ss.length+1) c2) (ss++[⟨sideL rest,.slice A (sideL rest).l.length c⟩]) (rest.dropWhile symT) (w2.setCell ⟨bb,3,none⟩ (.slice A2 (ss.length+1) c2)):=by
 have h1:=h.later hc1 hs1;have hrb:=h.rb;have hbb:=h.bb;have hrs:rb≠bb:=by omega
 have hsz:w.heap.size≤wr.heap.size:=h.chg.size;have hbk:Blk w2 bb 208 #[.int .i64 t.k,.string (str t.s),.int .i64 t.p,sv]:=r2.blk (h1.blk.alloc _) (.inr (by decide));have hcw:Chg (·=rb) w w2:=(h1.chg.alloc _).keeps r2;have hgd:∀q,GoodS w1 w.heap.size q→GoodS (w2.setCell ⟨bb,3,none⟩ (.slice A2 (ss.length+1) c2)) w.heap.size q:=by
  intro q hq;have h2:GoodS w2 w.heap.size q:=r2.own ((Chg.refl (fun _=>False) w1).alloc _ |>.own hq (fun _ _=>id)) (.inr (by decide));refine own_far h2 ?_ _;intro e;rcases own_form h2 with⟨e2,_⟩|⟨b,c,e2,_,_,_,_,cur,hcur⟩
  ·rw[e2]at e;cases e
  ·rw[e2]at e
   cases e
   exact Blk.ne_ (t:=201) hcur hbk (by decide) rfl
 refine⟨⟨?_,hs1.ended,hs1.ne⟩,by simpa using hbk.set_ 3 _,?_,?_,hcw.set (p:=⟨bb,3,none⟩) (.inl hbb) _,hbb,hrb,h.tb⟩
 ·obtain⟨lv,k1,k2,k3⟩:=hs1.ex
  refine⟨lv,(r2.blk (k1.alloc _) (.inr (by decide))).far (by simpa using hrs) _,?_,k3⟩;obtain⟨b,off,c,cs,rfl,hl⟩:=k2;have hb:=h.tb b (by rw[←k3];rfl);exact⟨b,off,c,cs,rfl,(r2.blk (hl.blk.alloc _) (.inl hb)).far (by simp;omega) _,hl.cap,hl.cell⟩
 ·rw[show (ss++[⟨sideL rest,.slice A (sideL rest).l.length c⟩]:List GS).length=ss.length+1 by simp,List.flatMap_append]
  refine own_far (by simpa [GS.cells] using r1) ?_ _;intro he;rcases own_form r1 with⟨e,_⟩|⟨b,c,e,_,_,_,_,cur,hcur⟩
  ·rw[e]at he;cases he
  ·rw[e]at he
   cases he
   exact Blk.ne_ (t:=211) hcur hbk (by decide) rfl
 ·intro q hq
  rcases mA.1 hq with hq|hq
  ·exact hgd q (h1.good q hq)
  ·rw[mS]at hq
   subst hq;exact hgd _ (own_mono ho1 hsz)
end SidesAt
end Go.Proofs.YthaacmablcpdfaaGreatDoor
namespace Go.Proofs.YthaacmablcpdfaaGreatDoor
open Go.RowKit Go.Maps
set_option linter.unusedVariables false
theorem lawStrR:Keyed Tryz.prog 9:=string_keyed Tryz.underlying9
theorem zeroIntR(w:World):(zeroValue 3).run Tryz.prog w=.ok (.int .i64 0) w:=by kernel_rfl
def klR(s:List UInt8):Lit:=.string s
theorem key_litR(s:List UInt8):WideAt.IsKeyLit (klR s):=by unfold klR;simp[WideAt.IsKeyLit]
theorem klR_inj{a b:List UInt8}(h:klR a=klR b):a=b:=by unfold klR at h;injection h
def Lefts(D:DataW Unit)(L:List (List UInt8)):Prop:=∀s,D.atKey (klR s) (.lit (.int .i64 0))=.lit (.int .i64 (L.count s))
theorem Lefts.start:Lefts (.map []) []:=fun s=>rfl
theorem Lefts.next{D:DataW Unit}{L:List (List UInt8)}(h:Lefts D L)(ht:Maps.Tidy D)(s:List UInt8):Lefts (D.put (klR s) (.lit (.int .i64 (L.count s+1)))) (L++[s]):=by
 intro u;rw[List.count_append];by_cases e:u=s
 ·subst e
  rw[Maps.atKey_put_same ht.isMap (key_litR _)];simp
 ·rw[Maps.atKey_put_other (fun hh=>e (klR_inj hh)),h u]
  have:List.count u [s]=0:=by rw[List.count_eq_zero];simpa using e
  rw[this,Nat.add_zero]
theorem map_chg{X:Nat→Prop}{w w':World}{b n:Nat}{D:DataW Unit}(h:w.ownsMap Tryz.prog 9 (plainElem Tryz.prog 3) b n D)(hc:Chg X w w')(hx:¬X b):w'.ownsMap Tryz.prog 9 (plainElem Tryz.prog 3) b n D:=by obtain⟨es,clock,hb,rest⟩:=h;exact⟨es,clock,(hc.block b (aG.1 hb).1 hx).trans hb,rest⟩
structure Rules(w:World)(B rb mb:Nat)(tb:Option Nat)(l:List Tk)(x:Txt)(dv kv sv rv:Value)(rs:List GRu)(D:DataW Unit):Prop where
 heads:Heads w B rb rv (.map (some mb)) tb l x dv kv sv
 rules:w.ownsRow B 208 4 rv rs.length (rs.flatMap GRu.cells)
 good:∀r∈rs,GoodR w B r
 map:w.ownsMap Tryz.prog 9 (plainElem Tryz.prog 3) mb rs.length D
 lefts:Lefts D (rs.map fun r=>r.left.s)
 mbB:mb<B
 mr:mb≠rb
 lr:rs.length+l.length≤100000
theorem GoodR.past{w w':World}{B rb n:Nat}{r:GRu}{rv:Value}{xs:List Value}(h:GoodR w B r)(hr:w.ownsRow B 208 4 rv n xs)(hrb:rb<B)(hc:Chg (fun k=>k=rb∨rv.ownBlock=some k) w w'):GoodR w' B r:=by
 refine⟨hc.own h.1 ?_,fun q hq=>hc.own (h.2 q hq) ?_⟩
 ·rintro g hg (rfl|hh)
  ·exact own_ne h.1 hrb _ hg rfl
  ·exact own_apart hr h.1 (by decide) g hh hg
 ·rintro g hg (rfl|hh)
  ·exact own_ne (h.2 q hq) hrb _ hg rfl
  ·exact own_apart hr (h.2 q hq) (by decide) g hh hg
structure Appended(w w7:World)(B rb mb bb:Nat)(tb:Option Nat)(l:List Tk)(x:Txt)(dv kv sv rv:Value)(rs:List GRu)(q:GRu)(D:DataW Unit):Prop where
 heads:Heads w7 B rb rv (.map (some mb)) tb l x dv kv sv
 rules:w7.ownsRow B 208 4 rv (rs.length+1) ((rs++[q]).flatMap GRu.cells)
 good:∀r∈rs++[q],GoodR w7 B r
 map:w7.ownsMap Tryz.prog 9 (plainElem Tryz.prog 3) mb rs.length D
 blk:Blk w7 bb 208 #[.int .i64 q.left.k,.string (str q.left.s),.int .i64 q.left.p,q.v]
 chg:Chg (fun k=>k=rb∨B≤k) w w7
theorem rules_rel{w w5 w6:World}{o:Obj}{B rb mb bb:Nat}{tb:Option Nat}{l rest:List Tk}{x:Txt}{dv kv sv rv bv:Value}{rs:List GRu}{D:DataW Unit}{t:Tk}{ss:List GS}{A6:Option Addr}{c6:Nat}
  (h:Rules w B rb mb tb l x dv kv sv rv rs D) (hs:SidesAt w rb dv kv sv rv (.map (some mb)) tb bb t bv ss rest w5) (hl:rest.length≤l.length)
  (r1:w6.ownsRow B 208 4 (.slice A6 (rs.length+1) c6) (rs.length+1) (rs.flatMap GRu.cells++[.int .i64 t.k,.string (str t.s),.int .i64 t.p,bv]))
  (r3:(w5.alloc o).grownBy w6 rv.ownBlock∧((Value.slice A6 (rs.length+1) c6).ownBlock=rv.ownBlock∨(Value.slice A6 (rs.length+1) c6).ownBlock=some (w5.alloc o).heap.size)) :
  Appended w (w6.setCell ⟨rb,4,none⟩ (.slice A6 (rs.length+1) c6)) B rb mb bb tb rest x dv kv sv (.slice A6 (rs.length+1) c6) rs ⟨t,bv,ss⟩ D:=by
 have hrb:=h.heads.rbB;have hbb:=hs.bb;have hbw:=h.heads.bB;have h5:Heads w5 B rb rv (.map (some mb)) tb rest x dv kv sv:=h.heads.chg hs.chg (fun _ h=>h) hs.stand hl;have hrow:w5.ownsRow B 208 4 rv rs.length (rs.flatMap GRu.cells):=hs.chg.own h.rules (own_ne h.rules hrb);have hX:Chg (fun k=>rv.ownBlock=some k) w5 w6:=((Chg.refl _ w5).alloc o).next (.of_grown r3.1);have hOg:∀k,rv.ownBlock=some k→B≤k:=fun k hk=>(own_ge h.rules k hk).1
 have hOl:∀k,rv.ownBlock=some k→k<w.heap.size:=fun k hk=>(own_ge h.rules k hk).2
 have hY:Chg (fun k=>k=rb∨rv.ownBlock=some k) w5 (w6.setCell ⟨rb,4,none⟩ (.slice A6 (rs.length+1) c6)):=(hX.mono (fun i hi=>.inr hi)).set (p:=⟨rb,4,none⟩) (.inr (.inl rfl)) _;have e1:¬rv.ownBlock=some rb:=fun e=>by have:=hOg _ e;omega
 have hst:Stand (w6.setCell ⟨rb,4,none⟩ (.slice A6 (rs.length+1) c6)) rb dv kv sv (.slice A6 (rs.length+1) c6) (.map (some mb)) tb rest:=by
  obtain⟨lv,k1,k2,k3⟩:=hs.stand.ex;refine⟨⟨lv,by simpa using(hX.blk k1 e1).set_ 4 _,k2.chg hY ?_,k3⟩,hs.stand.ended,hs.stand.ne⟩;intro g hgg;rw[k3]at hgg;rintro(rfl|hh)
  ·exact hs.stand.ne hgg
  ·have:=h.heads.tbB g hgg;have:=hOg g hh;omega
 have hgood:∀r∈rs++[(⟨t,bv,ss⟩:GRu)],GoodR w5 B r:=by
  intro r hr;rcases mA.1 hr with hr|hr
  ·exact(h.good r hr).chg hs.chg (fun g h1 _ e=>by omega)
  ·rw[mS]at hr
   subst hr;exact⟨own_mono hs.own hbw,fun q hq=>own_mono (hs.good q hq) hbw⟩
 have hT:Chg (fun k=>k=rb∨B≤k) w5 (w6.setCell ⟨rb,4,none⟩ (.slice A6 (rs.length+1) c6)):=hY.mono (fun i hi=>hi.imp id (hOg i));refine⟨?_,?_,fun r hr=>(hgood r hr).past hrow hrb hY,?_,?_,(hs.chg.mono (fun _ h=>.inl h)).next hT⟩
 ·refine⟨hst,hY.own h5.decl ?_,hY.own h5.marks ?_,hY.own h5.starts ?_,h5.apart,h5.rbB,h5.tbB,leT h5.bB hY.size,h5.ld,h5.lm,h5.ls⟩
  ·rintro g hgg (rfl|hh)
   ·exact own_ne h5.decl hrb _ hgg rfl
   ·exact own_apart hrow h5.decl (by decide) g hh hgg
  ·rintro g hgg (rfl|hh)
   ·exact own_ne h5.marks hrb _ hgg rfl
   ·exact own_apart hrow h5.marks (by decide) g hh hgg
  ·rintro g hgg (rfl|hh)
   ·exact own_ne h5.starts hrb _ hgg rfl
   ·exact own_apart hrow h5.starts (by decide) g hh hgg
 ·rw[List.flatMap_append]
  exact own_far (by simpa [GRu.cells] using r1) (fun e=>own_ne r1 hrb _ e rfl) _
 ·refine map_chg (map_chg h.map hs.chg h.mr) hY ?_
  rintro(e|e)
  ·exact h.mr e
  ·have:=hOg _ e;have:=h.mbB;omega
 ·refine hY.blk hs.blk ?_
  rintro(rfl|e)
  ·have:=hs.rb;omega
  ·have:=hOl _ e;omega
theorem Chg.of_map{w w':World}{b:Nat}(h:w.grownBy w' (some b)):Chg (·=b) w w':=⟨h.os,h.tape,h.output,h.size,fun k hk hx=>h.block k hk (fun e=>hx (by injection e))⟩
theorem Appended.last{w w7 w8:World}{B rb mb bb:Nat}{tb:Option Nat}{l l0:List Tk}{x:Txt}{dv kv sv rv rv0:Value}{rs:List GRu}{q:GRu}{D:DataW Unit}
  (h0:Rules w B rb mb tb l0 x dv kv sv rv0 rs D) (hl:l.length<l0.length) (h:Appended w w7 B rb mb bb tb l x dv kv sv rv rs q D) (hg:w7.grownBy w8 (some mb))
  (hm:w8.ownsMap Tryz.prog 9 (plainElem Tryz.prog 3) mb (rs.length+1) (D.put (klR q.left.s) (.lit (.int .i64 ((rs.map fun r=>r.left.s).count q.left.s+1))))) :
  Rules w8 B rb mb tb l x dv kv sv rv (rs++[q]) (D.put (klR q.left.s) (.lit (.int .i64 ((rs.map fun r=>r.left.s).count q.left.s+1))))∧Chg (fun k=>k=rb∨B≤k∨k=mb) w w8:=by
 have hc:=Chg.of_map hg;have hmb:=h0.mbB;have hrb:=h0.heads.rbB;have hlr:=h0.lr;have hlt:=h.heads.stand.lt;refine⟨⟨?_,?_,fun r hr=>(h.good r hr).chg hc (fun g h1 _ e=>by omega),by simpa using hm,?_,hmb,h0.mr,by simp;omega⟩,(h.chg.mono (fun i hi=>hi.imp id .inl)).next (hc.mono (fun i hi=>.inr (.inr hi)))⟩
 ·exact⟨h.heads.stand.chg hc (Ne.symm h0.mr) (fun g hgg e=>by
   subst e;obtain⟨lv,_,k2,k3⟩:=h.heads.stand.ex;obtain⟨b,off,c,cs,rfl,hla⟩:=k2;rw[←k3]at hgg;cases hgg
   obtain⟨es,clock,hb,_⟩:=h.map;have:=hla.blk;unfold Blk at this;rw[hb]at this;cases this),hc.own h.heads.decl (own_ne h.heads.decl hmb),hc.own h.heads.marks (own_ne h.heads.marks hmb),hc.own h.heads.starts (own_ne h.heads.starts hmb),h.heads.apart,hrb,h.heads.tbB,leT h.heads.bB hc.size,h.heads.ld,h.heads.lm,h.heads.ls⟩
 ·rw[show (rs++[q]).length=rs.length+1 by simp]
  exact hc.own h.rules (own_ne h.rules hmb)
 ·rw[mpA]
  exact h0.lefts.next (h0.map.tidy lawStrR) q.left.s
end Go.Proofs.YthaacmablcpdfaaGreatDoor
