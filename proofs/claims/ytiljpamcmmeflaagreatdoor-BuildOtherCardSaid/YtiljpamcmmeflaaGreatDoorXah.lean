/- . -/
import Derived.Shelf.Strings.Builder1
import Derived.Test.YtiljpamcmmeflaaGreatDoorProg
import Derived.Test.YtiljpamcmmeflaaGreatDoorXnm
set_option linter.all false
set_option maxRecDepth 100000
set_option maxHeartbeats 16000000
namespace Go.Proofs
open Go.Shelf
def Tryz.SK:Go.Shelf.Ren:=⟨fun|169=>211|n=>n,fun|70=>315|9=>9|0=>0|72=>318|37=>316|127=>338|3=>3|5=>5|n=>n,fun|n=>n⟩
def Tryz.YJ:Go.Proofs.Lays.n169 Tryz.prog Tryz.SK:={
 mixed:=by kernel_rfl
 f169:=Tryz.func211.trans (congrArg some (by kernel_rfl))
 t0:=Tryz.underlying0
 a0:=Tryz.isAgg0
 z0:=Tryz.sizeOf0
 v0:=Tryz.zeroValue0
 t3:=Tryz.underlying3
 a3:=Tryz.isAgg3
 z3:=Tryz.sizeOf3
 v3:=Tryz.zeroValue3
 t9:=Tryz.underlying9
 a9:=Tryz.isAgg9
 z9:=Tryz.sizeOf9
 v9:=Tryz.zeroValue9
 t37:=Tryz.underlying316
 a37:=Tryz.isAgg316
 z37:=Tryz.sizeOf316
 v37:=Tryz.zeroValue316
 t70:=Tryz.underlying315
 a70:=Tryz.isAgg315
 z70:=Tryz.sizeOf315
 v70:=Tryz.zeroValue315
 t72:=Tryz.underlying318
 a72:=Tryz.isAgg318
 z72:=Tryz.sizeOf318
 v72:=Tryz.zeroValue318
 t127:=Tryz.underlying338
 a127:=Tryz.isAgg338
 z127:=Tryz.sizeOf338
 v127:=Tryz.zeroValue338}
def Tryz.cE:Builder.Extra Tryz.prog Tryz.SK:={
 sizeBuilder:=by kernel_rfl
 liesBuilder:=by kernel_rfl
 t5:=Tryz.underlying5
 a5:=Tryz.isAgg5
 z5:=Tryz.sizeOf5
 v5:=Tryz.zeroValue5
 infoByte:=by kernel_rfl
 cellsByte:=by kernel_rfl
 sizeByte:=by kernel_rfl
 neB5:=by decide}
open Go.RowKit in
def Tryz.Builder_String_any(B b:Nat)(l:List UInt8)(w:World)(h:Lib.IsBuilder 318 5 B b (Lib.byteCells l) w)(hBw:B<=w.heap.size) :
 Calls Tryz.prog 211 #[.pointer (some ⟨b,0,none⟩)] w fun e w'=>e=.returned (.string ⟨l.toArray⟩)/\Below B w w':=Any.Builder_String_any Tryz.YJ Tryz.cE B b l w h hBw
end Go.Proofs
