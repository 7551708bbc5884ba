/- A part of the proof of the seat's laws. No condition beyond those in the theorems. -/
import Derived.Test.YtklcgncaclggcaaDoorZShelf
import Derived.Shelf.Utf8.RuneCount
import Derived.Shelf.Strings.Split
import Derived.Shelf.Strings.Replace
import Derived.Shelf.Strings.SplitShaped
import Derived.Shelf.Unicode.Decode
import Derived.Shelf.Strings.RuneCount
import Derived.Shelf.Strings.IndexAnyAll
import Derived.Shelf.Unicode.DecodeAny

namespace Go.Proofs
open Go.Shelf
open Go.RowKit Go.Lib in
theorem Tryd.strings_IndexAny_long (hv116:∀ w,(zeroValue 115).run Tryd.prog w = .ok (.agg (Array.replicate 256 (.bool false))) w) (s chars:ByteArray) (w:World) (h2:2≤chars.size) (h8:8<s.size) (hs:s.size<4294967281) (hcs:chars.size<4294967281) (hascii:∀ (j:Nat) b,chars.data.toList[j]? = some b→b.toNat<128) :
    Calls Tryd.prog 89 #[.string s,.string chars] w fun e w'=>e = .returned (.int .i64 (Lib.indexAny s.data.toList chars.data.toList))∧w'=((w.alloc (.cells (Lib.setCells chars.data.toList) 115)).alloc (.cells (Lib.setCells chars.data.toList) 115)):=Any.strings_IndexAny_long Tryd.lays153 hv116 (by kernel_rfl) s chars w h2 h8 hs hcs hascii
end Go.Proofs
