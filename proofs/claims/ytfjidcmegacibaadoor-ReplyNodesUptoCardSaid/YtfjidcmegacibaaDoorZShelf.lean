/- A part of the proof of the seat's laws. No condition beyond those in the theorems. -/
import Derived.Shelf.Strings.Builder1
import Derived.Shelf.Small.Strs
import Derived.Shelf.Small.Wraps
import Derived.Shelf.Strings.BuilderF
import Derived.Shelf.Strings.BuilderK
import Derived.Shelf.Strconv.Itoa0
import Derived.Shelf.Strconv.Itoa1
import Derived.Shelf.LaysM
import Derived.Shelf.Strconv.Itoa2
import Derived.Shelf.Strconv.Itoa3
import Derived.Shelf.Strings.Search1
import Derived.Shelf.Strings.Search2
import Derived.Shelf.Strings.Search3
import Derived.Shelf.Strings.Cut
import Derived.Shelf.Strings.Shaped
import Derived.Shelf.Strings.Prefix
import Derived.Shelf.Strings.BuilderCap
import Derived.Test.YtfjidcmegacibaaDoorProg

namespace Go.Proofs
open Go.Shelf
def Tryd.lays170_ren:Go.Shelf.Ren:=⟨fun|170=>60|n=>n,fun|70=>63|3=>3|0=>0|72=>65|37=>23|5=>5|n=>n,fun|n=>n⟩
theorem Tryd.lays170:Go.Proofs.Lays.n170 Tryd.prog Tryd.lays170_ren:={
  mixed:=by kernel_rfl
  f170:=Tryd.func60.trans (congrArg some (by kernel_rfl))
  t0:=Tryd.underlying0
  a0:=Tryd.isAgg0
  z0:=Tryd.sizeOf0
  v0:=Tryd.zeroValue0
  t3:=Tryd.underlying3
  a3:=Tryd.isAgg3
  z3:=Tryd.sizeOf3
  v3:=Tryd.zeroValue3
  t37:=Tryd.underlying23
  a37:=Tryd.isAgg23
  z37:=Tryd.sizeOf23
  v37:=Tryd.zeroValue23
  t70:=Tryd.underlying63
  a70:=Tryd.isAgg63
  z70:=Tryd.sizeOf63
  v70:=Tryd.zeroValue63
  t72:=Tryd.underlying65
  a72:=Tryd.isAgg65
  z72:=Tryd.sizeOf65
  v72:=Tryd.zeroValue65}
def Tryd.lays169_ren:Go.Shelf.Ren:=⟨fun|169=>32|n=>n,fun|70=>63|9=>9|0=>0|72=>65|37=>23|127=>95|3=>3|5=>5|n=>n,fun|n=>n⟩
theorem Tryd.lays169:Go.Proofs.Lays.n169 Tryd.prog Tryd.lays169_ren:={
  mixed:=by kernel_rfl
  f169:=Tryd.func32.trans (congrArg some (by kernel_rfl))
  t0:=Tryd.underlying0
  a0:=Tryd.isAgg0
  z0:=Tryd.sizeOf0
  v0:=Tryd.zeroValue0
  t3:=Tryd.underlying3
  a3:=Tryd.isAgg3
  z3:=Tryd.sizeOf3
  v3:=Tryd.zeroValue3
  t9:=Tryd.underlying9
  a9:=Tryd.isAgg9
  z9:=Tryd.sizeOf9
  v9:=Tryd.zeroValue9
  t37:=Tryd.underlying23
  a37:=Tryd.isAgg23
  z37:=Tryd.sizeOf23
  v37:=Tryd.zeroValue23
  t70:=Tryd.underlying63
  a70:=Tryd.isAgg63
  z70:=Tryd.sizeOf63
  v70:=Tryd.zeroValue63
  t72:=Tryd.underlying65
  a72:=Tryd.isAgg65
  z72:=Tryd.sizeOf65
  v72:=Tryd.zeroValue65
  t127:=Tryd.underlying95
  a127:=Tryd.isAgg95
  z127:=Tryd.sizeOf95
  v127:=Tryd.zeroValue95}
theorem Tryd.Builder_Extra_169:Builder.Extra Tryd.prog Tryd.lays169_ren:={
  sizeBuilder:=by kernel_rfl
  liesBuilder:=by kernel_rfl
  t5:=Tryd.underlying5
  a5:=Tryd.isAgg5
  z5:=Tryd.sizeOf5
  v5:=Tryd.zeroValue5
  infoByte:=by kernel_rfl
  cellsByte:=by kernel_rfl
  sizeByte:=by kernel_rfl
  neB5:=by decide}
open Go.RowKit in
theorem Tryd.Builder_Len_f (B b:Nat) (bs:List Value) (w:World) (h:Lib.IsBuilderF 65 5 B b bs w) :
    Calls Tryd.prog 60 #[.pointer (some ⟨b,0,none⟩)] w fun e w'=>e = .returned (.int .i64 bs.length)∧w'=w:=Any.Builder_Len_f Tryd.lays170 B b bs w h
open Go.RowKit in
theorem Tryd.Builder_String_any_k (B b:Nat) (l:List UInt8) (w:World) (h:Lib.IsBuilderF 65 5 B b (Lib.byteCells l) w) (hBw:B≤w.heap.size) :
    Calls Tryd.prog 32 #[.pointer (some ⟨b,0,none⟩)] w fun e w'=>e = .returned (.string ⟨l.toArray⟩)∧(Lib.IsBuilderF 65 5 B b (Lib.byteCells l) w'∧Below B w w'∧Lib.OthersKept 5 (some b) w w'):=Any.Builder_String_any_k Tryd.lays169 Tryd.Builder_Extra_169 B b l w h hBw
def Tryd.laysM171_ren:Go.Shelf.Ren:=⟨fun|171=>47|243=>72|246=>92|283=>108|284=>109|285=>110|286=>111|129=>119|317=>118|318=>120|319=>121|320=>122|337=>125|338=>126|n=>n,fun|3=>3|9=>9|2=>2|4=>4|171=>127|0=>0|53=>128|37=>23|5=>5|173=>131|212=>135|51=>136|20=>20|213=>137|46=>133|232=>142|233=>143|n=>n,fun|17=>1|18=>2|19=>3|n=>n⟩
theorem Tryd.laysM171:Go.Proofs.LaysM.n171 Tryd.prog Tryd.laysM171_ren:={
  mixed:=by kernel_rfl
  f129:=Tryd.func119.trans (congrArg some (by kernel_rfl))
  f171:=Tryd.func47.trans (congrArg some (by kernel_rfl))
  f243:=Tryd.func72.trans (congrArg some (by kernel_rfl))
  f246:=Tryd.func92.trans (congrArg some (by kernel_rfl))
  f283:=Tryd.func108.trans (congrArg some (by kernel_rfl))
  f284:=Tryd.func109.trans (congrArg some (by kernel_rfl))
  f285:=Tryd.func110.trans (congrArg some (by kernel_rfl))
  f286:=Tryd.func111.trans (congrArg some (by kernel_rfl))
  f317:=Tryd.func118.trans (congrArg some (by kernel_rfl))
  f318:=Tryd.func120.trans (congrArg some (by kernel_rfl))
  f319:=Tryd.func121.trans (congrArg some (by kernel_rfl))
  f320:=Tryd.func122.trans (congrArg some (by kernel_rfl))
  f337:=Tryd.func125.trans (congrArg some (by kernel_rfl))
  f338:=Tryd.func126.trans (congrArg some (by kernel_rfl))
  t0:=Tryd.underlying0
  a0:=Tryd.isAgg0
  z0:=Tryd.sizeOf0
  v0:=Tryd.zeroValue0
  t2:=Tryd.underlying2
  a2:=Tryd.isAgg2
  z2:=Tryd.sizeOf2
  v2:=Tryd.zeroValue2
  t3:=Tryd.underlying3
  a3:=Tryd.isAgg3
  z3:=Tryd.sizeOf3
  v3:=Tryd.zeroValue3
  t4:=Tryd.underlying4
  a4:=Tryd.isAgg4
  z4:=Tryd.sizeOf4
  v4:=Tryd.zeroValue4
  t5:=Tryd.underlying5
  a5:=Tryd.isAgg5
  z5:=Tryd.sizeOf5
  v5:=Tryd.zeroValue5
  t9:=Tryd.underlying9
  a9:=Tryd.isAgg9
  z9:=Tryd.sizeOf9
  v9:=Tryd.zeroValue9
  t20:=Tryd.underlying20
  a20:=Tryd.isAgg20
  z20:=Tryd.sizeOf20
  v20:=Tryd.zeroValue20
  t37:=Tryd.underlying23
  a37:=Tryd.isAgg23
  z37:=Tryd.sizeOf23
  v37:=Tryd.zeroValue23
  t46:=Tryd.underlying133
  a46:=Tryd.isAgg133
  z46:=Tryd.sizeOf133
  v46:=Tryd.zeroValue133
  t51:=Tryd.underlying136
  a51:=Tryd.isAgg136
  z51:=Tryd.sizeOf136
  v51:=Tryd.zeroValue136
  t53:=Tryd.underlying128
  a53:=Tryd.isAgg128
  z53:=Tryd.sizeOf128
  v53:=Tryd.zeroValue128
  t171:=Tryd.underlying127
  a171:=Tryd.isAgg127
  z171:=Tryd.sizeOf127
  v171:=Tryd.zeroValue127
  t173:=Tryd.underlying131
  a173:=Tryd.isAgg131
  z173:=Tryd.sizeOf131
  v173:=Tryd.zeroValue131
  t212:=Tryd.underlying135
  a212:=Tryd.isAgg135
  z212:=Tryd.sizeOf135
  v212:=Tryd.zeroValue135
  t213:=Tryd.underlying137
  a213:=Tryd.isAgg137
  z213:=Tryd.sizeOf137
  t232:=Tryd.underlying142
  a232:=Tryd.isAgg142
  z232:=Tryd.sizeOf142
  v232:=Tryd.zeroValue142
  t233:=Tryd.underlying143
  a233:=Tryd.isAgg143
  z233:=Tryd.sizeOf143
  v233:=Tryd.zeroValue143
  g17:=by kernel_rfl
  g18:=by kernel_rfl
  g19:=by kernel_rfl
  i0:=by kernel_rfl
  i2:=by kernel_rfl
  i3:=by kernel_rfl
  i4:=by kernel_rfl
  i5:=by kernel_rfl
  i9:=by kernel_rfl
  i20:=by kernel_rfl
  i37:=by kernel_rfl
  i46:=by kernel_rfl
  i51:=by kernel_rfl
  i53:=by kernel_rfl
  i171:=by kernel_rfl
  i173:=by kernel_rfl
  i212:=by kernel_rfl
  i232:=by kernel_rfl
  i233:=by kernel_rfl
  m17:=by kernel_rfl
  m18:=by kernel_rfl
  m19:=by kernel_rfl}
open Go.RowKit Go.Sort Go.Lib in
theorem Tryd.strconv_Itoa (n : Int) (h0 : -9223372036854775808 ≤ n) (h1 : n ≤ 9223372036854775807) (w : World) (htab : Lib.TabIs Tryd.prog w "internal/strconv.uint64pow10" .u64 Lib.pow10Tab) :
    Calls Tryd.prog 47 #[.int .i64 n] w fun e w'=>e = .returned (.string ⟨(Lib.itoa n).toArray⟩) ∧ ∃ k os,w'=grow (w.drewN k) os:=Any.strconv_Itoa Tryd.laysM171 n h0 h1 w htab
def Tryd.lays217_ren:Go.Shelf.Ren:=⟨fun|217=>97|266=>116|n=>n,fun|9=>9|5=>5|3=>3|n=>n,fun|n=>n⟩
theorem Tryd.lays217:Go.Proofs.Lays.n217 Tryd.prog Tryd.lays217_ren:={
  mixed:=by kernel_rfl
  f217:=Tryd.func97.trans (congrArg some (by kernel_rfl))
  f266:=Tryd.func116.trans (congrArg some (by kernel_rfl))
  t3:=Tryd.underlying3
  a3:=Tryd.isAgg3
  z3:=Tryd.sizeOf3
  v3:=Tryd.zeroValue3
  t5:=Tryd.underlying5
  a5:=Tryd.isAgg5
  z5:=Tryd.sizeOf5
  v5:=Tryd.zeroValue5
  t9:=Tryd.underlying9
  a9:=Tryd.isAgg9
  z9:=Tryd.sizeOf9
  v9:=Tryd.zeroValue9}
open Go.RowKit Go.Lib in
theorem Tryd.stringslite_IndexByte (s:ByteArray) (c:Int) (w:World) :
    Calls Tryd.prog 97 #[.string s,.int .u8 c] w fun e w'=>e = .returned (.int .i64 (Lib.indexByte s.data.toList c.toNat.toUInt8))∧w'=w:=Any.stringslite_IndexByte Tryd.lays217 s c w
def Tryd.lays219_ren:Go.Shelf.Ren:=⟨fun|219=>93|217=>97|225=>112|224=>113|267=>114|266=>116|314=>123|n=>n,fun|9=>9|3=>3|4=>4|5=>5|46=>133|146=>139|51=>136|n=>n,fun|1=>0|n=>n⟩
theorem Tryd.lays219:Go.Proofs.Lays.n219 Tryd.prog Tryd.lays219_ren:={
  mixed:=by kernel_rfl
  f217:=Tryd.func97.trans (congrArg some (by kernel_rfl))
  f219:=Tryd.func93.trans (congrArg some (by kernel_rfl))
  f224:=Tryd.func113.trans (congrArg some (by kernel_rfl))
  f225:=Tryd.func112.trans (congrArg some (by kernel_rfl))
  f266:=Tryd.func116.trans (congrArg some (by kernel_rfl))
  f267:=Tryd.func114.trans (congrArg some (by kernel_rfl))
  f314:=Tryd.func123.trans (congrArg some (by kernel_rfl))
  t3:=Tryd.underlying3
  a3:=Tryd.isAgg3
  z3:=Tryd.sizeOf3
  v3:=Tryd.zeroValue3
  t4:=Tryd.underlying4
  a4:=Tryd.isAgg4
  z4:=Tryd.sizeOf4
  v4:=Tryd.zeroValue4
  t5:=Tryd.underlying5
  a5:=Tryd.isAgg5
  z5:=Tryd.sizeOf5
  v5:=Tryd.zeroValue5
  t9:=Tryd.underlying9
  a9:=Tryd.isAgg9
  z9:=Tryd.sizeOf9
  v9:=Tryd.zeroValue9
  t46:=Tryd.underlying133
  a46:=Tryd.isAgg133
  z46:=Tryd.sizeOf133
  v46:=Tryd.zeroValue133
  t51:=Tryd.underlying136
  a51:=Tryd.isAgg136
  z51:=Tryd.sizeOf136
  v51:=Tryd.zeroValue136
  t146:=Tryd.underlying139
  a146:=Tryd.isAgg139
  z146:=Tryd.sizeOf139
  v146:=Tryd.zeroValue139
  g1:=by kernel_rfl}
open Go.RowKit Go.Lib in
theorem Tryd.stringslite_Index (s sub:ByteArray) (m:Int) (w:World) (hs:s.size<4294967281) (hm:w.cell? ⟨0,0,none⟩=some (.int .i64 m)) :
    Calls Tryd.prog 93 #[.string s,.string sub] w fun e w'=>e = .returned (.int .i64 (Lib.index s.data.toList sub.data.toList))∧w'=w:=Any.stringslite_Index Tryd.lays219 s sub m w hs hm
def Tryd.lays143_ren:Go.Shelf.Ren:=⟨fun|143=>76|219=>93|217=>97|225=>112|224=>113|267=>114|266=>116|314=>123|n=>n,fun|9=>9|3=>3|4=>4|5=>5|46=>133|146=>139|51=>136|n=>n,fun|1=>0|n=>n⟩
theorem Tryd.lays143:Go.Proofs.Lays.n143 Tryd.prog Tryd.lays143_ren:={
  mixed:=by kernel_rfl
  f143:=Tryd.func76.trans (congrArg some (by kernel_rfl))
  f217:=Tryd.func97.trans (congrArg some (by kernel_rfl))
  f219:=Tryd.func93.trans (congrArg some (by kernel_rfl))
  f224:=Tryd.func113.trans (congrArg some (by kernel_rfl))
  f225:=Tryd.func112.trans (congrArg some (by kernel_rfl))
  f266:=Tryd.func116.trans (congrArg some (by kernel_rfl))
  f267:=Tryd.func114.trans (congrArg some (by kernel_rfl))
  f314:=Tryd.func123.trans (congrArg some (by kernel_rfl))
  t3:=Tryd.underlying3
  a3:=Tryd.isAgg3
  z3:=Tryd.sizeOf3
  v3:=Tryd.zeroValue3
  t4:=Tryd.underlying4
  a4:=Tryd.isAgg4
  z4:=Tryd.sizeOf4
  v4:=Tryd.zeroValue4
  t5:=Tryd.underlying5
  a5:=Tryd.isAgg5
  z5:=Tryd.sizeOf5
  v5:=Tryd.zeroValue5
  t9:=Tryd.underlying9
  a9:=Tryd.isAgg9
  z9:=Tryd.sizeOf9
  v9:=Tryd.zeroValue9
  t46:=Tryd.underlying133
  a46:=Tryd.isAgg133
  z46:=Tryd.sizeOf133
  v46:=Tryd.zeroValue133
  t51:=Tryd.underlying136
  a51:=Tryd.isAgg136
  z51:=Tryd.sizeOf136
  v51:=Tryd.zeroValue136
  t146:=Tryd.underlying139
  a146:=Tryd.isAgg139
  z146:=Tryd.sizeOf139
  v146:=Tryd.zeroValue139
  g1:=by kernel_rfl}
open Go.RowKit Go.Lib in
theorem Tryd.strings_Index (s sub:ByteArray) (m:Int) (w:World) (hs:s.size<4294967281) (hm:w.cell? ⟨0,0,none⟩=some (.int .i64 m)) :
    Calls Tryd.prog 76 #[.string s,.string sub] w fun e w'=>e = .returned (.int .i64 (Lib.index s.data.toList sub.data.toList))∧w'=w:=Any.strings_Index Tryd.lays143 s sub m w hs hm
def Tryd.laysM219_ren:Go.Shelf.Ren:=⟨fun|219=>93|217=>97|225=>112|224=>113|267=>114|266=>116|314=>123|n=>n,fun|9=>9|3=>3|4=>4|5=>5|46=>133|146=>139|51=>136|n=>n,fun|1=>0|n=>n⟩
theorem Tryd.laysM219:Go.Proofs.LaysM.n219 Tryd.prog Tryd.laysM219_ren:={
  mixed:=by kernel_rfl
  f217:=Tryd.func97.trans (congrArg some (by kernel_rfl))
  f219:=Tryd.func93.trans (congrArg some (by kernel_rfl))
  f224:=Tryd.func113.trans (congrArg some (by kernel_rfl))
  f225:=Tryd.func112.trans (congrArg some (by kernel_rfl))
  f266:=Tryd.func116.trans (congrArg some (by kernel_rfl))
  f267:=Tryd.func114.trans (congrArg some (by kernel_rfl))
  f314:=Tryd.func123.trans (congrArg some (by kernel_rfl))
  t3:=Tryd.underlying3
  a3:=Tryd.isAgg3
  z3:=Tryd.sizeOf3
  v3:=Tryd.zeroValue3
  t4:=Tryd.underlying4
  a4:=Tryd.isAgg4
  z4:=Tryd.sizeOf4
  v4:=Tryd.zeroValue4
  t5:=Tryd.underlying5
  a5:=Tryd.isAgg5
  z5:=Tryd.sizeOf5
  v5:=Tryd.zeroValue5
  t9:=Tryd.underlying9
  a9:=Tryd.isAgg9
  z9:=Tryd.sizeOf9
  v9:=Tryd.zeroValue9
  t46:=Tryd.underlying133
  a46:=Tryd.isAgg133
  z46:=Tryd.sizeOf133
  v46:=Tryd.zeroValue133
  t51:=Tryd.underlying136
  a51:=Tryd.isAgg136
  z51:=Tryd.sizeOf136
  v51:=Tryd.zeroValue136
  t146:=Tryd.underlying139
  a146:=Tryd.isAgg139
  z146:=Tryd.sizeOf139
  v146:=Tryd.zeroValue139
  g1:=by kernel_rfl
  i3:=by kernel_rfl
  i4:=by kernel_rfl
  i5:=by kernel_rfl
  i9:=by kernel_rfl
  i46:=by kernel_rfl
  i51:=by kernel_rfl
  i146:=by kernel_rfl
  m1:=by kernel_rfl
  s1_3:=fun w h=>Go.Proofs.cell_of_shapedOpen_int (zero:=#[.int .i64 0]) (t:=3) h (of_decide_eq_true (by kernel_rfl)) (by kernel_rfl) rfl (by kernel_rfl) (by kernel_rfl) Tryd.underlying3}
end Go.Proofs
