/- A string's bytes as plain numbers. -/
import Derived.Test.YtealmnllljoolaaDoorWWords
import Derived.Test.YtealmnllljoolaaDoorWTab
import Derived.Test.YtealmnllljoolaaDoorWCopy
namespace Go.Proofs.YtealmnllljoolaaDoor.Page
open Go Go.RowKit Go.Proofs.YtealmnllljoolaaDoorW.PrintWords
def nb (s : ByteArray) : List Nat := s.data.toList.map fun b => b.toNat
theorem nb_length (s : ByteArray) : (nb s).length = s.size := by rw [nb, List.length_map, data_length]
theorem bt_nb (s : ByteArray) (i : Nat) : bt s (i : Int) = (((nb s).getD i 0 : Nat) : Int) := by
  rw [← rd_bytesOf]
  unfold rd bytesOf nb
  rw [Int.toNat_natCast, List.getD_eq_getElem?_getD, List.getD_eq_getElem?_getD, List.getElem?_map, List.getElem?_map]
  cases s.data.toList[i]? <;> rfl
theorem nb_extract (s : ByteArray) (a b : Nat) : nb (s.extract a b) = ((nb s).drop a).take (b - a) := by
  unfold nb
  rw [Copy.extract_list, List.map_take, List.map_drop]
end Go.Proofs.YtealmnllljoolaaDoor.Page
