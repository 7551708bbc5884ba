/- A part of the proof of the seat's laws. No condition beyond those in the theorems. -/
import Derived.Shelf.Strings.Builder1
import Derived.Shelf.Strings.Builder2
import Derived.Shelf.Small.Utf8
import Derived.Shelf.Small.Strs
import Derived.Shelf.Strings.BuilderF
import Derived.Shelf.Strings.BuilderK
import Derived.Shelf.Strings.Builder2Cap
import Derived.Shelf.Strings.Search1
import Derived.Shelf.Strings.Search2
import Derived.Shelf.Strings.Search3
import Derived.Shelf.Strings.Cut
import Derived.Shelf.Strings.Count
import Derived.Shelf.LaysM
import Derived.Shelf.Strings.Shaped
import Derived.Shelf.Strings.Prefix
import Derived.Shelf.Strings.Split
import Derived.Shelf.Strings.Replace
import Derived.Shelf.Strings.Runes
import Derived.Shelf.Strings.IndexAny
import Derived.Shelf.Strings.AsciiSet
import Derived.Shelf.Strings.IndexAnyAll
import Derived.Shelf.Unicode.DecodeSlow
import Derived.Shelf.Strings.BuilderCap
import Derived.Test.YtklcgncaclggcaaDoorProg

namespace Go.Proofs
open Go.Shelf
def Tryd.lays170_ren:Go.Shelf.Ren:=⟨fun|170=>49|n=>n,fun|70=>65|3=>3|0=>0|72=>68|37=>66|5=>5|n=>n,fun|n=>n⟩
theorem Tryd.lays170:Go.Proofs.Lays.n170 Tryd.prog Tryd.lays170_ren:={
  mixed:=by kernel_rfl
  f170:=Tryd.func49.trans (congrArg some (by kernel_rfl))
  t0:=Tryd.underlying0
  a0:=Tryd.isAgg0
  z0:=Tryd.sizeOf0
  v0:=Tryd.zeroValue0
  t3:=Tryd.underlying3
  a3:=Tryd.isAgg3
  z3:=Tryd.sizeOf3
  v3:=Tryd.zeroValue3
  t37:=Tryd.underlying66
  a37:=Tryd.isAgg66
  z37:=Tryd.sizeOf66
  v37:=Tryd.zeroValue66
  t70:=Tryd.underlying65
  a70:=Tryd.isAgg65
  z70:=Tryd.sizeOf65
  v70:=Tryd.zeroValue65
  t72:=Tryd.underlying68
  a72:=Tryd.isAgg68
  z72:=Tryd.sizeOf68
  v72:=Tryd.zeroValue68}
def Tryd.lays169_ren:Go.Shelf.Ren:=⟨fun|169=>38|n=>n,fun|70=>65|9=>9|0=>0|72=>68|37=>66|127=>94|3=>3|5=>5|n=>n,fun|n=>n⟩
theorem Tryd.lays169:Go.Proofs.Lays.n169 Tryd.prog Tryd.lays169_ren:={
  mixed:=by kernel_rfl
  f169:=Tryd.func38.trans (congrArg some (by kernel_rfl))
  t0:=Tryd.underlying0
  a0:=Tryd.isAgg0
  z0:=Tryd.sizeOf0
  v0:=Tryd.zeroValue0
  t3:=Tryd.underlying3
  a3:=Tryd.isAgg3
  z3:=Tryd.sizeOf3
  v3:=Tryd.zeroValue3
  t9:=Tryd.underlying9
  a9:=Tryd.isAgg9
  z9:=Tryd.sizeOf9
  v9:=Tryd.zeroValue9
  t37:=Tryd.underlying66
  a37:=Tryd.isAgg66
  z37:=Tryd.sizeOf66
  v37:=Tryd.zeroValue66
  t70:=Tryd.underlying65
  a70:=Tryd.isAgg65
  z70:=Tryd.sizeOf65
  v70:=Tryd.zeroValue65
  t72:=Tryd.underlying68
  a72:=Tryd.isAgg68
  z72:=Tryd.sizeOf68
  v72:=Tryd.zeroValue68
  t127:=Tryd.underlying94
  a127:=Tryd.isAgg94
  z127:=Tryd.sizeOf94
  v127:=Tryd.zeroValue94}
theorem Tryd.Builder_Extra_169:Builder.Extra Tryd.prog Tryd.lays169_ren:={
  sizeBuilder:=by kernel_rfl
  liesBuilder:=by kernel_rfl
  t5:=Tryd.underlying5
  a5:=Tryd.isAgg5
  z5:=Tryd.sizeOf5
  v5:=Tryd.zeroValue5
  infoByte:=by kernel_rfl
  cellsByte:=by kernel_rfl
  sizeByte:=by kernel_rfl
  neB5:=by decide}
open Go.RowKit in
theorem Tryd.Builder_Len_f (B b:Nat) (bs:List Value) (w:World) (h:Lib.IsBuilderF 68 5 B b bs w) :
    Calls Tryd.prog 49 #[.pointer (some ⟨b,0,none⟩)] w fun e w'=>e = .returned (.int .i64 bs.length)∧w'=w:=Any.Builder_Len_f Tryd.lays170 B b bs w h
open Go.RowKit in
theorem Tryd.Builder_String_any_k (B b:Nat) (l:List UInt8) (w:World) (h:Lib.IsBuilderF 68 5 B b (Lib.byteCells l) w) (hBw:B≤w.heap.size) :
    Calls Tryd.prog 38 #[.pointer (some ⟨b,0,none⟩)] w fun e w'=>e = .returned (.string ⟨l.toArray⟩)∧(Lib.IsBuilderF 68 5 B b (Lib.byteCells l) w'∧Below B w w'∧Lib.OthersKept 5 (some b) w w'):=Any.Builder_String_any_k Tryd.lays169 Tryd.Builder_Extra_169 B b l w h hBw
def Tryd.lays217_ren:Go.Shelf.Ren:=⟨fun|217=>85|266=>94|n=>n,fun|9=>9|5=>5|3=>3|n=>n,fun|n=>n⟩
theorem Tryd.lays217:Go.Proofs.Lays.n217 Tryd.prog Tryd.lays217_ren:={
  mixed:=by kernel_rfl
  f217:=Tryd.func85.trans (congrArg some (by kernel_rfl))
  f266:=Tryd.func94.trans (congrArg some (by kernel_rfl))
  t3:=Tryd.underlying3
  a3:=Tryd.isAgg3
  z3:=Tryd.sizeOf3
  v3:=Tryd.zeroValue3
  t5:=Tryd.underlying5
  a5:=Tryd.isAgg5
  z5:=Tryd.sizeOf5
  v5:=Tryd.zeroValue5
  t9:=Tryd.underlying9
  a9:=Tryd.isAgg9
  z9:=Tryd.sizeOf9
  v9:=Tryd.zeroValue9}
open Go.RowKit Go.Lib in
theorem Tryd.stringslite_IndexByte (s:ByteArray) (c:Int) (w:World) :
    Calls Tryd.prog 85 #[.string s,.int .u8 c] w fun e w'=>e = .returned (.int .i64 (Lib.indexByte s.data.toList c.toNat.toUInt8))∧w'=w:=Any.stringslite_IndexByte Tryd.lays217 s c w
def Tryd.lays219_ren:Go.Shelf.Ren:=⟨fun|219=>78|217=>85|225=>86|224=>87|267=>88|266=>94|314=>95|n=>n,fun|9=>9|3=>3|4=>4|5=>5|46=>108|146=>111|51=>110|n=>n,fun|1=>0|n=>n⟩
theorem Tryd.lays219:Go.Proofs.Lays.n219 Tryd.prog Tryd.lays219_ren:={
  mixed:=by kernel_rfl
  f217:=Tryd.func85.trans (congrArg some (by kernel_rfl))
  f219:=Tryd.func78.trans (congrArg some (by kernel_rfl))
  f224:=Tryd.func87.trans (congrArg some (by kernel_rfl))
  f225:=Tryd.func86.trans (congrArg some (by kernel_rfl))
  f266:=Tryd.func94.trans (congrArg some (by kernel_rfl))
  f267:=Tryd.func88.trans (congrArg some (by kernel_rfl))
  f314:=Tryd.func95.trans (congrArg some (by kernel_rfl))
  t3:=Tryd.underlying3
  a3:=Tryd.isAgg3
  z3:=Tryd.sizeOf3
  v3:=Tryd.zeroValue3
  t4:=Tryd.underlying4
  a4:=Tryd.isAgg4
  z4:=Tryd.sizeOf4
  v4:=Tryd.zeroValue4
  t5:=Tryd.underlying5
  a5:=Tryd.isAgg5
  z5:=Tryd.sizeOf5
  v5:=Tryd.zeroValue5
  t9:=Tryd.underlying9
  a9:=Tryd.isAgg9
  z9:=Tryd.sizeOf9
  v9:=Tryd.zeroValue9
  t46:=Tryd.underlying108
  a46:=Tryd.isAgg108
  z46:=Tryd.sizeOf108
  v46:=Tryd.zeroValue108
  t51:=Tryd.underlying110
  a51:=Tryd.isAgg110
  z51:=Tryd.sizeOf110
  v51:=Tryd.zeroValue110
  t146:=Tryd.underlying111
  a146:=Tryd.isAgg111
  z146:=Tryd.sizeOf111
  v146:=Tryd.zeroValue111
  g1:=by kernel_rfl}
open Go.RowKit Go.Lib in
theorem Tryd.stringslite_Index (s sub:ByteArray) (m:Int) (w:World) (hs:s.size<4294967281) (hm:w.cell? ⟨0,0,none⟩=some (.int .i64 m)) :
    Calls Tryd.prog 78 #[.string s,.string sub] w fun e w'=>e = .returned (.int .i64 (Lib.index s.data.toList sub.data.toList))∧w'=w:=Any.stringslite_Index Tryd.lays219 s sub m w hs hm
def Tryd.lays143_ren:Go.Shelf.Ren:=⟨fun|143=>56|219=>78|217=>85|225=>86|224=>87|267=>88|266=>94|314=>95|n=>n,fun|9=>9|3=>3|4=>4|5=>5|46=>108|146=>111|51=>110|n=>n,fun|1=>0|n=>n⟩
theorem Tryd.lays143:Go.Proofs.Lays.n143 Tryd.prog Tryd.lays143_ren:={
  mixed:=by kernel_rfl
  f143:=Tryd.func56.trans (congrArg some (by kernel_rfl))
  f217:=Tryd.func85.trans (congrArg some (by kernel_rfl))
  f219:=Tryd.func78.trans (congrArg some (by kernel_rfl))
  f224:=Tryd.func87.trans (congrArg some (by kernel_rfl))
  f225:=Tryd.func86.trans (congrArg some (by kernel_rfl))
  f266:=Tryd.func94.trans (congrArg some (by kernel_rfl))
  f267:=Tryd.func88.trans (congrArg some (by kernel_rfl))
  f314:=Tryd.func95.trans (congrArg some (by kernel_rfl))
  t3:=Tryd.underlying3
  a3:=Tryd.isAgg3
  z3:=Tryd.sizeOf3
  v3:=Tryd.zeroValue3
  t4:=Tryd.underlying4
  a4:=Tryd.isAgg4
  z4:=Tryd.sizeOf4
  v4:=Tryd.zeroValue4
  t5:=Tryd.underlying5
  a5:=Tryd.isAgg5
  z5:=Tryd.sizeOf5
  v5:=Tryd.zeroValue5
  t9:=Tryd.underlying9
  a9:=Tryd.isAgg9
  z9:=Tryd.sizeOf9
  v9:=Tryd.zeroValue9
  t46:=Tryd.underlying108
  a46:=Tryd.isAgg108
  z46:=Tryd.sizeOf108
  v46:=Tryd.zeroValue108
  t51:=Tryd.underlying110
  a51:=Tryd.isAgg110
  z51:=Tryd.sizeOf110
  v51:=Tryd.zeroValue110
  t146:=Tryd.underlying111
  a146:=Tryd.isAgg111
  z146:=Tryd.sizeOf111
  v146:=Tryd.zeroValue111
  g1:=by kernel_rfl}
open Go.RowKit Go.Lib in
theorem Tryd.strings_Index (s sub:ByteArray) (m:Int) (w:World) (hs:s.size<4294967281) (hm:w.cell? ⟨0,0,none⟩=some (.int .i64 m)) :
    Calls Tryd.prog 56 #[.string s,.string sub] w fun e w'=>e = .returned (.int .i64 (Lib.index s.data.toList sub.data.toList))∧w'=w:=Any.strings_Index Tryd.lays143 s sub m w hs hm
def Tryd.lays155_ren:Go.Shelf.Ren:=⟨fun|155=>35|154=>70|138=>81|165=>82|143=>56|166=>37|197=>83|169=>38|195=>90|218=>91|240=>72|241=>92|219=>78|260=>93|276=>84|277=>100|217=>85|225=>86|224=>87|267=>88|266=>94|314=>95|n=>n,fun|9=>9|3=>3|4=>4|72=>68|0=>0|76=>73|105=>103|21=>21|5=>5|70=>65|20=>20|37=>66|75=>72|127=>94|164=>105|46=>108|119=>119|139=>122|138=>121|146=>111|51=>110|80=>75|n=>n,fun|1=>0|3=>1|4=>2|n=>n⟩
theorem Tryd.lays155:Go.Proofs.Lays.n155 Tryd.prog Tryd.lays155_ren:={
  mixed:=by kernel_rfl
  f138:=Tryd.func81.trans (congrArg some (by kernel_rfl))
  f143:=Tryd.func56.trans (congrArg some (by kernel_rfl))
  f154:=Tryd.func70.trans (congrArg some (by kernel_rfl))
  f155:=Tryd.func35.trans (congrArg some (by kernel_rfl))
  f165:=Tryd.func82.trans (congrArg some (by kernel_rfl))
  f166:=Tryd.func37.trans (congrArg some (by kernel_rfl))
  f169:=Tryd.func38.trans (congrArg some (by kernel_rfl))
  f195:=Tryd.func90.trans (congrArg some (by kernel_rfl))
  f197:=Tryd.func83.trans (congrArg some (by kernel_rfl))
  f217:=Tryd.func85.trans (congrArg some (by kernel_rfl))
  f218:=Tryd.func91.trans (congrArg some (by kernel_rfl))
  f219:=Tryd.func78.trans (congrArg some (by kernel_rfl))
  f224:=Tryd.func87.trans (congrArg some (by kernel_rfl))
  f225:=Tryd.func86.trans (congrArg some (by kernel_rfl))
  f240:=Tryd.func72.trans (congrArg some (by kernel_rfl))
  f241:=Tryd.func92.trans (congrArg some (by kernel_rfl))
  f260:=Tryd.func93.trans (congrArg some (by kernel_rfl))
  f266:=Tryd.func94.trans (congrArg some (by kernel_rfl))
  f267:=Tryd.func88.trans (congrArg some (by kernel_rfl))
  f276:=Tryd.func84.trans (congrArg some (by kernel_rfl))
  f277:=Tryd.func100.trans (congrArg some (by kernel_rfl))
  f314:=Tryd.func95.trans (congrArg some (by kernel_rfl))
  t0:=Tryd.underlying0
  a0:=Tryd.isAgg0
  z0:=Tryd.sizeOf0
  v0:=Tryd.zeroValue0
  t3:=Tryd.underlying3
  a3:=Tryd.isAgg3
  z3:=Tryd.sizeOf3
  v3:=Tryd.zeroValue3
  t4:=Tryd.underlying4
  a4:=Tryd.isAgg4
  z4:=Tryd.sizeOf4
  v4:=Tryd.zeroValue4
  t5:=Tryd.underlying5
  a5:=Tryd.isAgg5
  z5:=Tryd.sizeOf5
  v5:=Tryd.zeroValue5
  t9:=Tryd.underlying9
  a9:=Tryd.isAgg9
  z9:=Tryd.sizeOf9
  v9:=Tryd.zeroValue9
  t20:=Tryd.underlying20
  a20:=Tryd.isAgg20
  z20:=Tryd.sizeOf20
  v20:=Tryd.zeroValue20
  t21:=Tryd.underlying21
  a21:=Tryd.isAgg21
  z21:=Tryd.sizeOf21
  v21:=Tryd.zeroValue21
  t37:=Tryd.underlying66
  a37:=Tryd.isAgg66
  z37:=Tryd.sizeOf66
  v37:=Tryd.zeroValue66
  t46:=Tryd.underlying108
  a46:=Tryd.isAgg108
  z46:=Tryd.sizeOf108
  v46:=Tryd.zeroValue108
  t51:=Tryd.underlying110
  a51:=Tryd.isAgg110
  z51:=Tryd.sizeOf110
  v51:=Tryd.zeroValue110
  t70:=Tryd.underlying65
  a70:=Tryd.isAgg65
  z70:=Tryd.sizeOf65
  v70:=Tryd.zeroValue65
  t72:=Tryd.underlying68
  a72:=Tryd.isAgg68
  z72:=Tryd.sizeOf68
  v72:=Tryd.zeroValue68
  t75:=Tryd.underlying72
  a75:=Tryd.isAgg72
  z75:=Tryd.sizeOf72
  v75:=Tryd.zeroValue72
  t76:=Tryd.underlying73
  a76:=Tryd.isAgg73
  z76:=Tryd.sizeOf73
  v76:=Tryd.zeroValue73
  t105:=Tryd.underlying103
  a105:=Tryd.isAgg103
  z105:=Tryd.sizeOf103
  v105:=Tryd.zeroValue103
  t119:=Tryd.underlying119
  a119:=Tryd.isAgg119
  z119:=Tryd.sizeOf119
  t127:=Tryd.underlying94
  a127:=Tryd.isAgg94
  z127:=Tryd.sizeOf94
  v127:=Tryd.zeroValue94
  t138:=Tryd.underlying121
  a138:=Tryd.isAgg121
  z138:=Tryd.sizeOf121
  v138:=Tryd.zeroValue121
  t139:=Tryd.underlying122
  a139:=Tryd.isAgg122
  z139:=Tryd.sizeOf122
  v139:=Tryd.zeroValue122
  t146:=Tryd.underlying111
  a146:=Tryd.isAgg111
  z146:=Tryd.sizeOf111
  v146:=Tryd.zeroValue111
  t164:=Tryd.underlying105
  a164:=Tryd.isAgg105
  z164:=Tryd.sizeOf105
  v164:=Tryd.zeroValue105
  g1:=by kernel_rfl
  g3:=by kernel_rfl
  g4:=by kernel_rfl}
theorem Tryd.Builder_Extra_155:Builder.Extra Tryd.prog Tryd.lays155_ren:={
  sizeBuilder:=by kernel_rfl
  liesBuilder:=by kernel_rfl
  t5:=Tryd.underlying5
  a5:=Tryd.isAgg5
  z5:=Tryd.sizeOf5
  v5:=Tryd.zeroValue5
  infoByte:=by kernel_rfl
  cellsByte:=by kernel_rfl
  sizeByte:=by kernel_rfl
  neB5:=by decide}
open Go.RowKit Go.Lib in
theorem Tryd.strings_ReplaceAll (s old new:ByteArray) (m:Int) (w:World) (hs:s.size<4294967281) (hm:w.cell? ⟨0,0,none⟩=some (.int .i64 m)) (h1:1≤old.size) (hlen:s.size+Lib.countB s old*new.size≤140737488355328) :
    Calls Tryd.prog 35 #[.string s,.string old,.string new] w fun e w'=>
      e = .returned (.string ⟨(Lib.replaceAll s.data.toList old.data.toList new.data.toList).toArray⟩)∧Below w.heap.size w w':=Any.strings_ReplaceAll Tryd.lays155 Tryd.Builder_Extra_155 s old new m w hs hm h1 hlen
def Tryd.lays152_ren:Go.Shelf.Ren:=⟨fun|152=>96|137=>79|119=>101|224=>87|225=>86|217=>85|266=>94|n=>n,fun|9=>9|21=>21|3=>3|4=>4|5=>5|0=>0|46=>108|n=>n,fun|n=>n⟩
theorem Tryd.lays152:Go.Proofs.Lays.n152 Tryd.prog Tryd.lays152_ren:={
  mixed:=by kernel_rfl
  f119:=Tryd.func101.trans (congrArg some (by kernel_rfl))
  f137:=Tryd.func79.trans (congrArg some (by kernel_rfl))
  f152:=Tryd.func96.trans (congrArg some (by kernel_rfl))
  f217:=Tryd.func85.trans (congrArg some (by kernel_rfl))
  f224:=Tryd.func87.trans (congrArg some (by kernel_rfl))
  f225:=Tryd.func86.trans (congrArg some (by kernel_rfl))
  f266:=Tryd.func94.trans (congrArg some (by kernel_rfl))
  t0:=Tryd.underlying0
  a0:=Tryd.isAgg0
  z0:=Tryd.sizeOf0
  v0:=Tryd.zeroValue0
  t3:=Tryd.underlying3
  a3:=Tryd.isAgg3
  z3:=Tryd.sizeOf3
  v3:=Tryd.zeroValue3
  t4:=Tryd.underlying4
  a4:=Tryd.isAgg4
  z4:=Tryd.sizeOf4
  v4:=Tryd.zeroValue4
  t5:=Tryd.underlying5
  a5:=Tryd.isAgg5
  z5:=Tryd.sizeOf5
  v5:=Tryd.zeroValue5
  t9:=Tryd.underlying9
  a9:=Tryd.isAgg9
  z9:=Tryd.sizeOf9
  v9:=Tryd.zeroValue9
  t21:=Tryd.underlying21
  a21:=Tryd.isAgg21
  z21:=Tryd.sizeOf21
  v21:=Tryd.zeroValue21
  t46:=Tryd.underlying108
  a46:=Tryd.isAgg108
  z46:=Tryd.sizeOf108
  v46:=Tryd.zeroValue108}
open Go.RowKit Go.Lib in
theorem Tryd.strings_IndexRune_ascii (s:ByteArray) (r:Int) (w:World) (h0:0≤r) (h1:r<128) :
    Calls Tryd.prog 96 #[.string s,.int .i32 r] w fun e w'=>e = .returned (.int .i64 (Lib.indexByte s.data.toList r.toNat.toUInt8))∧w'=w:=Any.strings_IndexRune_ascii Tryd.lays152 s r w h0 h1
def Tryd.lays153_ren:Go.Shelf.Ren:=⟨fun|153=>89|152=>96|226=>97|227=>98|228=>99|137=>79|119=>101|224=>87|225=>86|217=>85|266=>94|n=>n,fun|9=>9|3=>3|4=>4|5=>5|21=>21|117=>116|116=>115|0=>0|46=>108|124=>123|n=>n,fun|n=>n⟩
theorem Tryd.lays153:Go.Proofs.Lays.n153 Tryd.prog Tryd.lays153_ren:={
  mixed:=by kernel_rfl
  f119:=Tryd.func101.trans (congrArg some (by kernel_rfl))
  f137:=Tryd.func79.trans (congrArg some (by kernel_rfl))
  f152:=Tryd.func96.trans (congrArg some (by kernel_rfl))
  f153:=Tryd.func89.trans (congrArg some (by kernel_rfl))
  f217:=Tryd.func85.trans (congrArg some (by kernel_rfl))
  f224:=Tryd.func87.trans (congrArg some (by kernel_rfl))
  f225:=Tryd.func86.trans (congrArg some (by kernel_rfl))
  f226:=Tryd.func97.trans (congrArg some (by kernel_rfl))
  f227:=Tryd.func98.trans (congrArg some (by kernel_rfl))
  f228:=Tryd.func99.trans (congrArg some (by kernel_rfl))
  f266:=Tryd.func94.trans (congrArg some (by kernel_rfl))
  t0:=Tryd.underlying0
  a0:=Tryd.isAgg0
  z0:=Tryd.sizeOf0
  v0:=Tryd.zeroValue0
  t3:=Tryd.underlying3
  a3:=Tryd.isAgg3
  z3:=Tryd.sizeOf3
  v3:=Tryd.zeroValue3
  t4:=Tryd.underlying4
  a4:=Tryd.isAgg4
  z4:=Tryd.sizeOf4
  v4:=Tryd.zeroValue4
  t5:=Tryd.underlying5
  a5:=Tryd.isAgg5
  z5:=Tryd.sizeOf5
  v5:=Tryd.zeroValue5
  t9:=Tryd.underlying9
  a9:=Tryd.isAgg9
  z9:=Tryd.sizeOf9
  v9:=Tryd.zeroValue9
  t21:=Tryd.underlying21
  a21:=Tryd.isAgg21
  z21:=Tryd.sizeOf21
  v21:=Tryd.zeroValue21
  t46:=Tryd.underlying108
  a46:=Tryd.isAgg108
  z46:=Tryd.sizeOf108
  v46:=Tryd.zeroValue108
  t116:=Tryd.underlying115
  a116:=Tryd.isAgg115
  z116:=Tryd.sizeOf115
  t117:=Tryd.underlying116
  a117:=Tryd.isAgg116
  z117:=Tryd.sizeOf116
  v117:=Tryd.zeroValue116
  t124:=Tryd.underlying123
  a124:=Tryd.isAgg123
  z124:=Tryd.sizeOf123
  v124:=Tryd.zeroValue123}
open Go.RowKit Go.Lib in
theorem Tryd.strings_IndexAny_long (hv116:∀ w,(zeroValue 115).run Tryd.prog w = .ok (.agg (Array.replicate 256 (.bool false))) w) (s chars:ByteArray) (w:World) (h2:2≤chars.size) (h8:8<s.size) (hs:s.size<4294967281) (hcs:chars.size<4294967281) (hascii:∀ (j:Nat) b,chars.data.toList[j]? = some b→b.toNat<128) :
    Calls Tryd.prog 89 #[.string s,.string chars] w fun e w'=>e = .returned (.int .i64 (Lib.indexAny s.data.toList chars.data.toList))∧w'=((w.alloc (.cells (Lib.setCells chars.data.toList) 115)).alloc (.cells (Lib.setCells chars.data.toList) 115)):=Any.strings_IndexAny_long Tryd.lays153 hv116 (by kernel_rfl) s chars w h2 h8 hs hcs hascii
end Go.Proofs
