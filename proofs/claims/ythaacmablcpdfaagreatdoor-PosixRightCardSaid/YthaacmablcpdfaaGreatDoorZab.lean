/- Bytes and names. The program's Name. What is quoted. Grammars. -/
import Derived.Test.YthaacmablcpdfaaGreatDoorRows
import Derived.Test.YthaacmablcpdfaaGreatDoorZaa
import Derived.WalkSpells
import Derived.WalkLawsBesides
import Derived.BigQuiet
import Derived.Deep.QuietTactic
import Derived.Laws.RangeString
import Derived.Laws.RangeAny
import Derived.Test.YthaacmablcpdfaaGreatDoorNm
namespace Go.Proofs.YthaacmablcpdfaaGreatDoor
open Go.RowKit
set_option linter.unusedVariables false
theorem ret_bool{a b:Bool}(h:a=b):Ending.returned (.bool a)=.returned (.bool b):=by rw[h]
def classOf(c:UInt8):Nat:=
 if c=0 then 0 else if c=32∨c=9 then 1 else if c=10 then 2
 else if c=38∨c=124∨c=59∨c=60∨c=62∨c=40∨c=41 then 5
 else if c=39∨c=34∨c=92∨c=96 then 6
 else if c=36 then 7
 else if 48≤c∧c≤57 then 3
 else if c=95∨(97≤c|||32∧c|||32≤122) then 4
 else 8
def letterN(n o:Int):Nat:=if 48≤n∧n≤57 then 3 else if n=95∨(97≤o∧o≤122) then 4 else 8
def classN(n o:Int):Nat:=
 if n=0 then 0 else if n=32∨n=9 then 1 else if n=10 then 2
 else if n=38∨n=124∨n=59∨n=60∨n=62∨n=40∨n=41 then 5
 else if n=39∨n=34∨n=92∨n=96 then 6
 else if n=36 then 7 else letterN n o
def allBytes:List UInt8:=(List.range 256).map UInt8.ofNat
theorem mem_bytes(c:UInt8):c∈allBytes:=List.mem_map.2 ⟨c.toNat,List.mem_range.2 c.toNat_lt,by simp⟩
theorem class_all:allBytes.all (fun c=>classN c.toNat (bits .or .u8 c.toNat 32)==classOf c)=true:=by kernel_rfl
theorem class_eq(c:UInt8):classN c.toNat (bits .or .u8 c.toNat 32)=classOf c:=by have:=List.all_eq_true.1 class_all c (mem_bytes c);exact beq_iff_eq.1 this
theorem letter_any(c:UInt8)(w:World):Calls Tryz.prog 205 #[.int .u8 c.toNat] w fun e w'=>e=.returned (.int .i64 (letterN c.toNat (bits .or .u8 c.toNat 32)))∧w'=w:=by
 go_enter Tryz.func205,Tryz.ntmps205
 generalize (c.toNat:Int)=n;go_wp2;all_goals go_ret
 all_goals refine⟨?_,rfl⟩
 all_goals refine congrArg (fun k:Int=>Ending.returned (Value.int .i64 k)) ?_
 all_goals (
  unfold letterN;try simp only[beq_iff_eq,bN]at *
  repeat' split
  all_goals first|rfl|(exfalso;omega))
theorem class_any(c:UInt8)(w:World):Calls Tryz.prog 164 #[.int .u8 c.toNat] w fun e w'=>e=.returned (.int .i64 (classOf c))∧w'=w:=by
 rw[←class_eq];have HL:=Hd (letter_any c);go_enter Tryz.func164,Tryz.ntmps164
 go_wp2_with (go_at_call 205;refine(HL.out _).mono ?_;rintro e w' ⟨rfl,rfl⟩)
 all_goals go_ret
 all_goals refine⟨?_,rfl⟩
 all_goals refine congrArg (fun k:Int=>Ending.returned (Value.int .i64 k)) ?_
 all_goals clear HL
 all_goals generalize (c.toNat:Int)=n at *
 all_goals (
  unfold classN;try simp only[beq_iff_eq,bN]at *
  repeat' split
  all_goals first|rfl|(exfalso;omega))
theorem ret_nat{a b:Nat}(h:a=b):Ending.returned (.int .i64 (a:Int))=.returned (.int .i64 (b:Int)):=by rw[h]
def nameB:List UInt8→Bool
 | []=>false
 | c::r=>classOf c==4&&r.all fun d=>classOf d==4||classOf d==3
theorem drop_at(s:ByteArray)(k:Nat)(h:k<s.size):s.data.toList.drop k=s[k]::s.data.toList.drop (k+1):=by rw[List.drop_eq_getElem_cons (by simpa using h)];rfl
theorem drop_end(s:ByteArray):s.data.toList.drop s.size=[]:=List.drop_of_length_le (by simp)
theorem list_empty(s:ByteArray):s.data.toList.isEmpty=decide (s.size=0):=by
 have h:s.data.toList.length=s.size:=by simp
 cases hl:s.data.toList with
 | nil=>rw[hl]at h;simp at h;simp[←h]
 | cons a l=>rw[hl]at h;simp at h;simp[←h]
def namL(l:List UInt8):Bool:=l.all fun d=>classOf d==4||classOf d==3
def namF(k:Nat)(l:List UInt8):Bool:=if k=0 then(match l with|[]=>true|c::r=>classOf c==4&&namL r) else namL l
theorem nameB_eq(s:ByteArray):nameB s.data.toList=(!decide (s.size=0)&&namF 0 s.data.toList):=by
 rw[←list_empty];cases s.data.toList with
 | nil=>rfl
 | cons c r=>simp[nameB,namF,namL]
def insideB(c:UInt8):Bool:=33≤c.toNat&&c.toNat≤126&&c.toNat != 39
def insideN(n:Int):Bool:=decide (33≤n)&&decide (n≤126)&&!(n==39)
theorem inside_all:allBytes.all (fun c=>insideN c.toNat==insideB c)=true:=by kernel_rfl
theorem inside_eq(c:UInt8):insideN c.toNat=insideB c:=beq_iff_eq.1 (List.all_eq_true.1 inside_all c (mem_bytes c))
theorem inside_any(c:UInt8)(w:World):Calls Tryz.prog 185 #[.int .u8 c.toNat] w fun e w'=>e=.returned (.bool (insideB c))∧w=w':=by
 rw[←inside_eq];go_enter Tryz.func185,Tryz.ntmps185
 generalize (c.toNat:Int)=n;unfold insideN;go_wp2;all_goals go_ret
 all_goals refine⟨ret_bool ?_,rfl⟩
 all_goals (rw[Bool.eq_iff_iff];simp[*]<;>omega)
def asciiB(l:List UInt8):Bool:=l.all fun c=>decide (c.toNat<128)
set_option maxRecDepth 100000 in
set_option maxHeartbeats 800000 in
theorem ascii_any(s:ByteArray)(hs:s.size≤9223372036854775807)(w:World):Calls Tryz.prog 182 #[.string s] w fun e w'=>e=.returned (.bool (asciiB s.data.toList))∧w=w':=by
 go_enter Tryz.func182,Tryz.ntmps182
 go_wp2
 go_loop [6] (fun i=>∃k:Nat,k≤s.size∧i=.int .i64 k∧Hid (asciiB s.data.toList=asciiB (s.data.toList.drop k))) (fun i=>s.size-(intOf i).toNat)
 case atStart=>exact⟨0,zeL _,rfl,Hd rfl⟩
 case round=>
  obtain⟨k,hk,rfl,HL⟩:=hrel;by_cases hlt:k<s.size
  ·have HD:=Hd (drop_at s k hlt)
   have HE:Hid (asciiB s.data.toList=(decide (s[k].toNat<128)&&asciiB (s.data.toList.drop (k+1)))):=Hd (by rw[HL.out,HD.out];rfl);by_cases h:s[k].toNat<128
   ·have HS:Hid (asciiB s.data.toList=asciiB (s.data.toList.drop (k+1))):=Hd (by rw[HE.out,decide_eq_true h,Bool.true_and])
    have h2:(s[k].toNat:Int)<128:=by omega
    clear h;go_wp2
    go_round
    case rel=>exact⟨k+1,by omega,by go_num,HS⟩
    case measure=>simp[intOf];omega
   ·have HS:Hid (asciiB s.data.toList=false):=Hd (by rw[HE.out,decide_eq_false h,Bool.false_and])
    have h2:128≤(s[k].toNat:Int):=by omega
    clear h;go_wp2;go_ret;exact⟨ret_bool HS.out.symm,rfl⟩
  ·obtain rfl:k=s.size:=by omega
   have HS:Hid (asciiB s.data.toList=true):=Hd (by rw[HL.out,drop_end];rfl);go_wp2;go_ret;exact⟨ret_bool HS.out.symm,rfl⟩
def nameAt(i:Int)(q:Int):Bool:=(q==4)||((q==3)&&decide (0<i))
theorem nameC_any(i:Int)(c:UInt8)(w:World):Calls Tryz.prog 184 #[.int .i64 i,.int .u8 c.toNat] w fun e w'=>e=.returned (.bool (nameAt i (classOf c)))∧w=w':=by
 have HC:=Hd (class_any c w);generalize (classOf c:Int)=q at *;unfold nameAt;go_enter Tryz.func184,Tryz.ntmps184
 go_wp2_with (go_at_call 164;refine HC.out.mono ?_;rintro e w' ⟨rfl,rfl⟩)
 all_goals go_ret
 all_goals exact⟨ret_bool (by simp[*]),rfl⟩
theorem nameAt_byte(k:Nat)(c:UInt8):nameAt k (classOf c)=(classOf c==4||(classOf c==3&&k != 0)):=by
 have h1:((classOf c:Int)==4)=(classOf c==4):=by rw[Bool.eq_iff_iff,beq_iff_eq,beq_iff_eq];omega
 have h2:((classOf c:Int)==3)=(classOf c==3):=by rw[Bool.eq_iff_iff,beq_iff_eq,beq_iff_eq];omega
 have h3:decide ((0:Int)<(k:Int))=(k != 0):=by rw[Bool.eq_iff_iff,decide_eq_true_eq,bne_iff_ne];omega
 unfold nameAt;rw[h1,h2,h3]
theorem namF_step(s:ByteArray)(k:Nat)(h:k<s.size)(hk:namF 0 s.data.toList=namF k (s.data.toList.drop k)):namF 0 s.data.toList=(nameAt k (classOf s[k])&&namF (k+1) (s.data.toList.drop (k+1))):=by
 rw[hk,drop_at s k h,nameAt_byte];unfold namF;rw[if_neg (Nat.succ_ne_zero k)];by_cases hk0:k=0
 ·rw[if_pos hk0];simp[hk0]
 ·have h4:(k != 0)=true:=by simpa using hk0
  rw[if_neg hk0,h4,Bool.and_true];rfl
theorem below_iter(w:World)(s:ByteArray)(k:Nat):Below w.heap.size w (w.iter s k):=(Below.refl _ _).alloc (leR _) _
set_option maxRecDepth 100000 in
set_option maxHeartbeats 1600000 in
theorem each_any(s:ByteArray)(hs:s.size≤9223372036854775807)(ha:asciiB s.data.toList=true)(w:World):Calls Tryz.prog 183 #[.string s,.func (.func 184) #[] #[]] w fun e w'=>e=.returned (.bool (nameB s.data.toList))∧Below w.heap.size w w':=by
 have HA:Hid (∀k,∀h:k<s.size,s[k].toNat<128):=Hd (fun k h=>by
  have h1:=List.all_eq_true.1 ha s[k] (by
   have:s.data.toList[k]?=some s[k]:=by rw[Array.getElem?_toList];exact Array.getElem?_eq_getElem h
   exact mG this)
  exact of_decide_eq_true h1)
 have HD0:=Hd (nameB_eq s);clear ha;go_enter Tryz.func183,Tryz.ntmps183
 go_wp2;go_loopw [] (fun wr=>∃k:Nat,k≤s.size∧wr=w.iter s k∧Hid (namF 0 s.data.toList=namF k (s.data.toList.drop k))) (fun wr=>s.size-wr.iterPos w.heap.size)
 case atStart=>exact⟨0,zeL _,rfl,Hd rfl⟩
 case round=>
  obtain⟨k,hk,rfl,HL⟩:=hrel;by_cases hlt:k<s.size
  ·have hnx:∀ty,(Instr.next (.pointer (some ⟨w.heap.size,0,none⟩)) true ty).run Tryz.prog (w.iter s k)=_:=fun ty=>run_next_ascii w s k ty hlt (HA.out k hlt)
   have HE:=Hd (namF_step s k hlt HL.out);have HC:=Hd (nameC_any k s[k] (w.iter s (k+1)));cases hb:nameAt k (classOf s[k]) with
   | true=>
    rw[hb]at HC HE;have HS:Hid (namF 0 s.data.toList=namF (k+1) (s.data.toList.drop (k+1))):=Hd (by rw[HE.out,Bool.true_and]);clear hb HL;go_wp2_with (go_at_call 184;refine HC.out.mono ?_;rintro e w' ⟨rfl,rfl⟩)
    go_roundw
    case rel=>exact⟨k+1,by omega,rfl,HS⟩
    case measure=>simp;omega
   | false=>
    rw[hb]at HC HE;have HS:Hid (namF 0 s.data.toList=false):=Hd (by rw[HE.out,Bool.false_and]);clear hb HL;go_wp2_with (go_at_call 184;refine HC.out.mono ?_;rintro e w' ⟨rfl,rfl⟩)
    go_ret;exact⟨ret_bool (by rw[HD0.out,HS.out,Bool.and_false]),below_iter w s _⟩
  ·have hnx:∀ty,(Instr.next (.pointer (some ⟨w.heap.size,0,none⟩)) true ty).run Tryz.prog (w.iter s k)=_:=fun ty=>run_next_end w s k ty hlt
   obtain rfl:k=s.size:=by omega
   have HS:Hid (namF 0 s.data.toList=true):=Hd (by rw[HL.out,drop_end];unfold namF;split<;>rfl)
   clear HL;go_wp2;go_ret;refine⟨ret_bool ?_,below_iter w s _⟩;rw[HD0.out,HS.out,Bool.and_true];rw[show s.toList=s.data.toList from ByteArray.toList_eq s,list_empty]
theorem class_high{c:UInt8}(h:¬c.toNat<128):classOf c=8:=by have h0:=List.all_eq_true.1 (show allBytes.all (fun c=>decide (c.toNat<128)||(classOf c==8))=true by kernel_rfl) c (mem_bytes c);rw[decide_eq_false h,Bool.false_or]at h0;exact beq_iff_eq.1 h0
theorem name_ascii{l:List UInt8}(h:nameB l=true):asciiB l=true:=by
 cases l with
 | nil=>cases h
 | cons c r=>
  simp only[nameB,Bool.and_eq_true,beq_iff_eq,List.all_eq_true,Bool.or_eq_true]at h;unfold asciiB;rw[List.all_eq_true];intro d hd;rw[decide_eq_true_eq];by_cases hh:d.toNat<128
  ·exact hh
  ·have h8:=class_high hh
   rcases List.mem_cons.1 hd with rfl|hd
   ·omega
   ·rcases h.2 d hd with e|e<;>omega
theorem name_any(s:ByteArray)(hs:s.size≤9223372036854775807)(w:World):Calls Tryz.prog 130 #[.string s] w fun e w'=>e=.returned (.bool (nameB s.data.toList))∧Below w.heap.size w w':=by
 have HA:=Hd (ascii_any s hs w);cases ha:asciiB s.data.toList with
 | true=>
  rw[ha]at HA;have HE:=Hd (each_any s hs ha w);clear ha;go_enter Tryz.func130,Tryz.ntmps130
  go_wp2_with (go_at_call 182;refine HA.out.mono ?_;rintro e w' ⟨rfl,rfl⟩)
  refine HE.out.mono ?_;rintro e w' ⟨rfl,hb⟩;have HB:=Hd hb;clear hb;go_wp2;go_ret;exact⟨rfl,HB.out⟩
 | false=>
  rw[ha]at HA;have hn:nameB s.data.toList=false:=by
   cases h:nameB s.data.toList with
   | false=>rfl
   | true=>rw[name_ascii h]at ha;cases ha
  rw[hn];clear ha hn;go_enter Tryz.func130,Tryz.ntmps130
  go_wp2_with (go_at_call 182;refine HA.out.mono ?_;rintro e w' ⟨rfl,rfl⟩)
  go_ret;exact⟨rfl,Below.refl _ _⟩
def okName(l:List UInt8):Bool:=nameB l&&decide (l.length≤24)
theorem len_size(t:ByteArray):t.data.toList.length=t.size:=by simp
theorem plain_any(s:ByteArray)(hs:s.size≤9223372036854775807)(w:World):Calls Tryz.prog 76 #[.string s] w fun e w'=>e=.returned (.bool (okName s.data.toList))∧Below w.heap.size w w':=by
 have HN:=Hd (name_any s hs w);unfold okName;rw[len_size];generalize nameB s.data.toList=b at *;by_cases h:s.size≤24
 ·rw[decide_eq_true h,Bool.and_true]
  have h2:(s.size:Int)≤24:=by omega
  clear h;go_enter Tryz.func76,Tryz.ntmps76
  go_wp2_with fail
  refine HN.out.mono ?_;rintro e w' ⟨rfl,hb⟩;have HB:=Hd hb;clear hb;go_wp2;go_ret;exact⟨rfl,HB.out⟩
 ·rw[decide_eq_false h,Bool.and_false]
  have h2:¬(s.size:Int)≤24:=by omega
  clear h;go_enter Tryz.func76,Tryz.ntmps76
  go_wp2;go_ret;exact⟨rfl,Below.refl _ _⟩
def spanL(l:List UInt8):Nat:=(l.takeWhile insideB).length
theorem spanL_le(l:List UInt8):spanL l≤l.length:=(List.takeWhile_sublist insideB).length_le
theorem spanL_cons(c:UInt8)(l:List UInt8):spanL (c::l)=if insideB c then spanL l+1 else 0:=by unfold spanL;rw[List.takeWhile_cons];split<;>simp
def SpanAt(s:ByteArray)(p k:Nat):Prop:=p+k≤s.size∧spanL (s.data.toList.drop p)=k+spanL (s.data.toList.drop (p+k))
set_option maxRecDepth 100000 in
set_option maxHeartbeats 1600000 in
theorem span_any(s:ByteArray)(hs:s.size≤4611686018427387904)(p:Nat)(hp:p≤s.size)(w:World):Calls Tryz.prog 161 #[.string s,.int .i64 p,.func (.func 185) #[] #[]] w fun e w'=>e=.returned (.int .i64 (spanL (s.data.toList.drop p)))∧w=w':=by
 go_enter Tryz.func161,Tryz.ntmps161
 go_wp2
 go_loop [7] (fun n=>∃k:Nat,p+k≤s.size∧n=.int .i64 k∧Hid (SpanAt s p k)) (fun n=>s.size-(intOf n).toNat)
 case atStart=>exact⟨0,by omega,rfl,Hd ⟨by omega,by simp⟩⟩
 case round=>
  obtain⟨k,hk,rfl,HS⟩:=hrel;by_cases hlt:p+k<s.size
  ·have HD:=Hd (drop_at s (p+k) hlt)
   have HI:=Hd (inside_any s[p+k] w);cases hb:insideB s[p+k] with
   | true=>
    rw[hb]at HI;have HN:Hid (SpanAt s p (k+1)):=Hd ⟨by omega,by have h1:=HS.out.2;rw[HD.out,spanL_cons,if_pos hb]at h1;rw[h1];show k+(spanL (s.data.toList.drop (p+k+1))+1)=k+1+spanL (s.data.toList.drop (p+(k+1)));rw[Nat.add_assoc p k 1];omega⟩
    clear hb;go_wp2_with (go_at_call 185;refine HI.out.mono ?_;rintro e w' ⟨rfl,rfl⟩)
    go_round
    case rel=>exact⟨k+1,by omega,by go_num,HN⟩
    case measure=>simp[intOf];omega
   | false=>
    rw[hb]at HI;have HN:Hid (spanL (s.data.toList.drop p)=k):=Hd (by have h1:=HS.out.2;rw[HD.out,spanL_cons,hb]at h1;simpa using h1)
    clear hb;go_wp2_with (go_at_call 185;refine HI.out.mono ?_;rintro e w' ⟨rfl,rfl⟩)
    go_ret;exact⟨ret_nat HN.out.symm,rfl⟩
  ·have HN:Hid (spanL (s.data.toList.drop p)=k):=Hd (by
    have h1:=HS.out.2;rw[show s.data.toList.drop (p+k)=[] from List.drop_of_length_le (by simp;omega)]at h1;simpa [spanL] using h1)
   go_wp2;go_ret;exact⟨ret_nat HN.out.symm,rfl⟩
theorem fnew_any(k:Int)(hk:k≠0)(p:Int)(w:World):Calls Tryz.prog 67 #[.int .i64 k,.int .i64 p] w fun e w'=>e=.returned (.iface 202 (.pointer (some ⟨w.heap.size,0,none⟩)))∧Below w.heap.size w w':=by
 have h0:(k==0)=false:=by simpa using hk
 clear hk;go_enter Tryz.func67,Tryz.ntmps67
 go_wp2;go_ret;exact⟨rfl,(Below.refl _ _).alloc (leR _) _⟩
def quoteOK(s:ByteArray):Prop:=1+spanL (s.data.toList.drop 1)<s.size∧s.data.toList[1+spanL (s.data.toList.drop 1)]?=some 39∧spanL (s.data.toList.drop 1)≠0∧1+spanL (s.data.toList.drop 1)<24
theorem get_some(s:ByteArray)(k:Nat)(h:k<s.size):s.data.toList[k]?=some s[k]:=by rw[Array.getElem?_toList];exact Array.getElem?_eq_getElem h
set_option maxHeartbeats 800000 in
theorem quoted_yes(s:ByteArray)(hs:s.size≤4611686018427387904)(h:quoteOK s)(w:World):Calls Tryz.prog 131 #[.string s,.int .i64 0] w fun e w'=>e=.returned (.tuple #[.int .i64 ((spanL (s.data.toList.drop 1)+2:Nat):Int),.nilIface])∧w=w':=by
 obtain⟨h1,h2,h3,h4⟩:=h;have HSP:=Hd (span_any s hs 1 (by omega) w);generalize spanL (s.data.toList.drop 1)=k at *;have h5:s[1+k]=39:=by rw[get_some s _ h1]at h2;exact Option.some.inj h2
 have h6:((s[1+k].toNat:Int) != 39)=false:=by rw[h5];rfl
 have h7:((1:Int)+(k:Int)==1)=false:=bN.2 (by omega);clear h2 h5 h3;go_enter Tryz.func131,Tryz.ntmps131
 go_wp2_with fail
 refine HSP.out.mono ?_;rintro e w' ⟨rfl,rfl⟩;go_wp2
 go_ret2
 exact⟨by simp;omega,rfl⟩
def Errs(w:World)(e:Ending)(w':World):Prop:=∃A,e=.returned (.tuple #[.int .i64 0,.iface 202 (.pointer (some A))])∧Below w.heap.size w w'
set_option maxHeartbeats 1600000 in
theorem quoted_no(s:ByteArray)(hs:s.size≤4611686018427387904)(h0:0<s.size)(h:¬quoteOK s)(w:World):Calls Tryz.prog 131 #[.string s,.int .i64 0] w (Errs w):=by
 have HSP:=Hd (span_any s hs 1 (by omega) w);have hk:spanL (s.data.toList.drop 1)<s.size:=by have:=spanL_le (s.data.toList.drop 1);simp only[List.length_drop,len_size]at this;omega
 unfold quoteOK at h;generalize spanL (s.data.toList.drop 1)=k at *;by_cases h1:1+k<s.size
 ·by_cases h2:s[1+k]=39
  ·have h6:((s[1+k].toNat:Int) != 39)=false:=by rw[h2];rfl
   by_cases h3:k=0
   ·subst h3
    clear h h2;go_enter Tryz.func131,Tryz.ntmps131
    go_wp2_with fail
    refine HSP.out.mono ?_;rintro e w' ⟨rfl,rfl⟩;go_wp2_with (go_at_call 67;refine(fnew_any _ (by decide) _ _).mono ?_;rintro e w' ⟨rfl,hb⟩;have HB:=Hd hb;clear hb)
    go_ret2
    exact⟨_,rfl,HB.out⟩
   ·have h7:((1:Int)+(k:Int)==1)=false:=bN.2 (by omega)
    have h4:24≤1+k:=by
     by_cases h4:1+k<24
     ·exfalso
      exact h ⟨h1,by rw[get_some s _ h1,h2],h3,h4⟩
     ·omega
    have h5:24≤(1:Int)+(k:Int):=by omega
    clear h h2 h3 h4;go_enter Tryz.func131,Tryz.ntmps131
    go_wp2_with fail
    refine HSP.out.mono ?_;rintro e w' ⟨rfl,rfl⟩;go_wp2_with (go_at_call 67;refine(fnew_any _ (by decide) _ _).mono ?_;rintro e w' ⟨rfl,hb⟩;have HB:=Hd hb;clear hb)
    go_ret2
    exact⟨_,rfl,HB.out⟩
  ·have h6:((s[1+k].toNat:Int) != 39)=true:=by
    rw[bne_iff_ne];intro e;exact h2 (UInt8.toNat_inj.1 (by show s[1+k].toNat=39;omega))
   clear h h2;go_enter Tryz.func131,Tryz.ntmps131
   go_wp2_with fail
   refine HSP.out.mono ?_;rintro e w' ⟨rfl,rfl⟩;go_wp2_with (go_at_call 67;refine(fnew_any _ (by decide) _ _).mono ?_;rintro e w' ⟨rfl,hb⟩;have HB:=Hd hb;clear hb)
   go_ret2
   exact⟨_,rfl,HB.out⟩
 ·clear h
  go_enter Tryz.func131,Tryz.ntmps131
  go_wp2_with fail
  refine HSP.out.mono ?_;rintro e w' ⟨rfl,rfl⟩;go_wp2_with (go_at_call 67;refine(fnew_any _ (by decide) _ _).mono ?_;rintro e w' ⟨rfl,hb⟩;have HB:=Hd hb;clear hb)
  go_ret2
  exact⟨_,rfl,HB.out⟩
theorem bytes_list(s:ByteArray):s.toList=s.data.toList:=ByteArray.toList_eq s
def quotedB(l:List UInt8):Bool:=l.head?==some 39&&(decide (1+spanL (l.drop 1)<l.length)&&(l[1+spanL (l.drop 1)]?==some 39)&&(spanL (l.drop 1) != 0)&&decide (1+spanL (l.drop 1)<24))&&(spanL (l.drop 1)+2==l.length)
theorem quotedB_ok{s:ByteArray}(h:quoteOK s)(h0:s.data.toList.head?=some 39):quotedB s.data.toList=(spanL (s.data.toList.drop 1)+2==s.size):=by obtain⟨h1,h2,h3,h4⟩:=h;unfold quotedB;rw[h0,h2,len_size,decide_eq_true h1,decide_eq_true h4,show (spanL (s.data.toList.drop 1) != 0)=true from bne_iff_ne.2 h3];rfl
theorem quotedB_no{s:ByteArray}(h:¬quoteOK s):quotedB s.data.toList=false:=by
 cases hb:quotedB s.data.toList with
 | false=>rfl
 | true=>exfalso;unfold quotedB at hb;simp only[Bool.and_eq_true,decide_eq_true_eq,beq_iff_eq,bne_iff_ne,ne_eq,len_size]at hb;exact h ⟨hb.1.2.1.1.1,hb.1.2.1.1.2,hb.1.2.1.2,hb.1.2.2⟩
theorem quotedB_head{l:List UInt8}(h:l.head?≠some 39):quotedB l=false:=by unfold quotedB;rw[bN.2 h];rfl
theorem head_get(s:ByteArray)(h:0<s.size):s.data.toList.head?=some s[0]:=by rw[List.head?_eq_getElem?];exact get_some s 0 h
theorem size_nil{s:ByteArray}(h:s.size=0):s=⟨#[]⟩:=by have:s.data.toList=[]:=List.eq_nil_of_length_eq_zero (by rw[len_size];exact h);exact ByteArray.ext (Array.ext' this)
set_option maxHeartbeats 1600000 in
theorem isq_any(s:ByteArray)(hs:s.size≤4611686018427387904)(w:World):Calls Tryz.prog 77 #[.string s] w fun e w'=>e=.returned (.bool (quotedB s.data.toList))∧Below w.heap.size w w':=by
 by_cases h0:s.size=0
 ·obtain rfl:=size_nil h0
  go_enter Tryz.func77,Tryz.ntmps77
  go_wp2;go_ret;exact⟨rfl,Below.refl _ _⟩
 have hpos:0<s.size:=by omega
 have hne:s.toList.isEmpty=false:=by rw[bytes_list,list_empty];exact decide_eq_false h0
 by_cases h1:s[0]=39
 ·have h6:((s[0].toNat:Int) != 39)=false:=by rw[h1];rfl
  have hh:s.data.toList.head?=some 39:=by rw[head_get s hpos,h1]
  by_cases hq:quoteOK s
  ·have HQ:=Hd (quoted_yes s hs hq w)
   rw[quotedB_ok hq hh];clear hq hh h1 h0;generalize spanL (s.data.toList.drop 1)=k at *;go_enter Tryz.func77,Tryz.ntmps77
   go_wp2_with fail
   refine HQ.out.mono ?_;rintro e w' ⟨rfl,rfl⟩;go_wp2;go_ret;refine⟨ret_bool ?_,Below.refl _ _⟩;rw[Bool.eq_iff_iff,beq_iff_eq,beq_iff_eq];omega
  ·have HQ:=Hd (quoted_no s hs hpos hq w)
   rw[quotedB_no hq];clear hq hh h1 h0;go_enter Tryz.func77,Tryz.ntmps77
   go_wp2_with fail
   refine HQ.out.mono ?_;rintro e w' ⟨A,rfl,hb⟩;have HB:=Hd hb;clear hb;go_wp2;go_ret;exact⟨rfl,HB.out⟩
 ·have h6:((s[0].toNat:Int) != 39)=true:=by
   rw[bne_iff_ne];intro e;exact h1 (UInt8.toNat_inj.1 (by show s[0].toNat=39;omega))
  rw[quotedB_head (by rw[head_get s hpos];simpa using h1)];clear h1 h0;go_enter Tryz.func77,Tryz.ntmps77
  go_wp2;go_ret;exact⟨rfl,Below.refl _ _⟩
structure Ru where
 left:Int
 v:Value
 right:List Int
structure Gm where
 T:List ByteArray
 N:List ByteArray
 s:Int
 R:List Ru
def okN(s:ByteArray):Bool:=okName s.data.toList
def okT(s:ByteArray):Bool:=okName s.data.toList||quotedB s.data.toList
def shortR(r:Ru):Bool:=decide (r.right.length≤8)
def sameR(a b:Ru):Bool:=a.left==b.left&&a.right==b.right
def Asc(l:List Int):Prop:=∀(i:Nat) (x y:Int),l[i]?=some x→l[i+1]?=some y→x≤y
def Un(l:List Ru):Prop:=∀(i j:Nat) (x r:Ru),j<i→l[j]?=some x→l[i]?=some r→sameR x r=false
namespace Gm
def term(g:Gm)(s:Int):Bool:=decide (1≤s)&&decide (s≤(g.T.length:Int))
def non(g:Gm)(s:Int):Bool:=decide ((g.T.length:Int)<s)&&decide (s≤(g.T.length:Int)+(g.N.length:Int))
def sym(g:Gm)(s:Int):Bool:=g.term s||g.non s
def few(g:Gm):Bool:=(decide (g.T.length≤120)&&decide (g.N.length≤120))&&(decide (g.R.length≤300)&&g.R.all shortR)
def form(g:Gm):Bool:=g.T.all okT&&g.N.all okN
def once(g:Gm):Bool:=decide ((g.T++g.N).Nodup)
def knownR(g:Gm)(r:Ru):Bool:=g.non r.left&&r.right.all g.sym
def known(g:Gm):Bool:=g.non g.s&&g.R.all g.knownR
open Classical in
noncomputable def unlike (g:Gm):Bool:=decide (Un g.R)
def left(k:Int)(r:Ru):Bool:=r.left==k
def each(g:Gm):Bool:=(List.range g.N.length).all fun i=>g.R.any (left ((g.T.length:Int)+1+i))
noncomputable def check (g:Gm):Int:=if g.few then(if g.form then(if g.once then(if g.known then(if g.unlike then(if g.each then 0 else 9) else 8) else 1) else 8) else 10) else 7
def first(g:Gm)(i:Nat):Nat:=g.R.findIdx (left ((g.T.length:Int)+1+i))
def firsts(g:Gm):List Int:=(List.range g.N.length).map fun i=>(g.first i:Int)
open Classical in
noncomputable def ordered (g:Gm):Bool:=decide (Asc g.firsts)
def name(g:Gm)(s:Int):ByteArray:=if s=0 then⟨#[36]⟩ else if s<1∨(g.T.length:Int)+(g.N.length:Int)<s then⟨#[]⟩ else(g.T++g.N).getD (s-1).toNat ⟨#[]⟩
def small(g:Gm):Prop:=(∀s∈g.T,s.size≤1048576)∧(∀s∈g.N,s.size≤1048576)∧g.T.length≤1048576∧g.N.length≤1048576∧g.R.length≤1048576∧∀r∈g.R,r.right.length≤1048576
end Gm
def str(l:List UInt8):ByteArray:=⟨l.toArray⟩
theorem str_data(a:ByteArray):str a.data.toList=a:=by unfold str;simp
theorem data_str(l:List UInt8):(str l).data.toList=l:=by unfold str;simp
theorem str_size(l:List UInt8):(str l).size=l.length:=by unfold str;rfl
end Go.Proofs.YthaacmablcpdfaaGreatDoor
