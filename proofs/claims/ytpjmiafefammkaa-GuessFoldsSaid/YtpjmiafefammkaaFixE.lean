/- Layer 23: awake, and the walks of FixedParts, FixedBlends. -/
import Derived.Test.YtpjmiafefammkaaTails
import Derived.Test.YtpjmiafefammkaaKitA
namespace Go.Proofs.Ytpjmiafefammkaa
open Go.RowKit

theorem rd_lit3 (w : World) (x y z : Int) (t : TypeId) : Rd (w.alloc (.cells #[.int .i64 x, .int .i64 y, .int .i64 z] t)) .i64 (some ⟨w.heap.size, 0, none⟩) [x, y, z] := fun _ =>
  ⟨w.heap.size, 0, rfl, fun i hi => by
    rw [Nat.zero_add, cell_of_row _ w.heap.size i _ t (0, 0) (heap_alloc_new w _)]
    match i, hi with
    | 0, _ => rfl
    | 1, _ => rfl
    | 2, _ => rfl⟩

theorem allI_lit3 : AllI [1, 2, 3] := by intro z hz; simp at hz; rcases hz with rfl | rfl | rfl <;> exact ⟨by decide, by decide⟩

end Go.Proofs.Ytpjmiafefammkaa
