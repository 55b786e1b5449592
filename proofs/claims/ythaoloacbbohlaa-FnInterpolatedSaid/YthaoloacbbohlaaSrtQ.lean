/- The library's sort at bytes, put together: it returns, and the cells then hold the bytes in ascending order. -/
import Derived.Test.YthaoloacbbohlaaSrtB
import Derived.Test.YthaoloacbbohlaaSrtF
import Derived.Test.YthaoloacbbohlaaSrtG
import Derived.Test.YthaoloacbbohlaaSrtI
import Derived.Test.YthaoloacbbohlaaSrtL
import Derived.Test.YthaoloacbbohlaaSrtM
import Derived.Test.YthaoloacbbohlaaSrtN
import Derived.Sort.AssemblyPlain
namespace Go.Proofs.Ythaoloacbbohlaa.Srt
open Go.RowKit Go.Sort Go.Proofs Go.Proofs.Ythaoloacbbohlaa
theorem callees13 : Callees13 where
  ins := Sb.insertionSort_int
  brk := Sb.breakPatterns_int
  piv := Sb.choosePivot_int
  par := Sb.partialInsertionSort_int
  peq := Sb.partitionEqualOrdered_int
  prt := Sb.partitionOrdered_int
theorem plain13 : Plain13 where
  swo := swo_ltInt
  ins := insertionSort_holds
  par := partialInsertionSort_holds
  prt := partition_holds _
  peq := partitionEqual_holds _
  pdq := pdq_sorts _
theorem pdqWalkInt : pdqWalk_int := fun blk off cap a b limit d w hH hb hab hbd hsz hl hB =>
  Sb.pdqsort_int callees13 plain13 (b - a + 1) blk off cap a b limit d w (by omega) hH hb hab hbd hsz hl hB
theorem sort_int_eq (zs : List Int) : Sort.sort ltInt zs.toArray = (zs.mergeSort fun x y => decide (x ≤ y)).toArray := by
  rw [← sortInt zs]
/-- slices.Sort at []byte. -/
theorem sort_u8 (blk off cap : Nat) (zs : List Int) (w : World) (hH : Holds (Value.int .u8) w blk off zs.toArray) (hblk : blk < w.heap.size) (hsz : zs.length < 4611686018427387904) :
    Calls Try.prog 89 #[.slice (some ⟨blk, off, none⟩) zs.length cap] w fun e w' =>
      e = .returned (.tuple #[]) ∧ ∃ n os, w' = grow (putRow (Value.int .u8) (Sort.ahead w n) blk off (zs.mergeSort fun x y => decide (x ≤ y)).toArray) os := by
  have h := Sb.Sort_int pdqWalkInt blk off cap zs.toArray w hH hblk (by simpa using hsz)
  rw [sort_int_eq] at h
  simpa using h
end Go.Proofs.Ythaoloacbbohlaa.Srt
