/- Contract of Join of package digest. -/
import Derived.Test.YtlikefnngkokhaaDig0
set_option linter.unusedVariables false
set_option linter.unusedSimpArgs false
namespace Go.Proofs.Ytlikefnngkokhaa
open Go.RowKit

set_option maxHeartbeats 400000 in
theorem join_any (a b : Int) (w : World) :
    Calls Try.prog 21 #[.int .u64 a, .int .u64 b] w fun e w' => e = .returned (.int .u64 (djoin a b)) ∧ Gr w w' := by
  go_enter Try.func21, Try.ntmps21
  go_wp2_with fail
  refine (add_any w.heap.size 1852793957 _ [a, b] 2 _ (heap_new2 _ _ _) (fun ad e => by cases e; simp) (Rd.lit (heap_new2' _ _ _) (by simp))).mono ?_
  rintro e w' ⟨rfl, hp⟩
  have hg : Gr w w' := (((Gr.refl w).alloc _).alloc _).put hp (Nat.le_refl _)
  have hc := hp.cell
  clear hp
  go_wp2
  go_ret
  exact ⟨rfl, hg⟩

end Go.Proofs.Ytlikefnngkokhaa
