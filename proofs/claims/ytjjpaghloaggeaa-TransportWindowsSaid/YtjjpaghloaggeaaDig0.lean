/- Contracts of add, Words and Tag of package digest. -/
import Derived.Test.YtjjpaghloaggeaaProg
import Derived.Test.YtjjpaghloaggeaaBase
import Derived.Test.YtjjpaghloaggeaaDigPure
set_option linter.unusedVariables false
set_option linter.unusedSimpArgs false
namespace Go.Proofs.Ytjjpaghloaggeaa
open Go.RowKit

set_option maxHeartbeats 400000 in
theorem add_any (b : Nat) (h : Int) (A : Option Addr) (l : List Int) (c : Nat) (w : World)
    (hb : w.heap[b]? = some (.cells #[.int .u64 h] 102 (0, 0))) (hne : ∀ ad, A = some ad → ad.block ≠ b) (hr : Rd w .u64 A l) :
    Calls Try.prog 60 #[.pointer (some ⟨b, 0, none⟩), .slice A l.length c] w fun e w' => e = .returned (.tuple #[]) ∧ PutB w w' b (.int .u64 (dfold h l)) 102 := by
  have hlen := hr.len
  go_enter Try.func60, Try.ntmps60
  go_wp2
  go_loopw [9] (fun i wr => ∃ k : Nat, k ≤ l.length ∧ i = .int .i64 k ∧ PutB w wr b (.int .u64 (dfold h (l.take k))) 102) (fun i _ => l.length - (intOf i).toNat)
  case atStart => exact ⟨0, Nat.zero_le _, rfl, PutB.refl (by simpa [dfold] using hb)⟩
  case round =>
    obtain ⟨k, hk, rfl, hp⟩ := hrel
    by_cases hlt : k < l.length
    · obtain ⟨ad, rfl, hc⟩ := hr.2 (by omega)
      have hx : wr.cell? (ad.add k) = some (.int .u64 l[k]) := by
        rw [grownBy_cell hp.g (by rw [add_block]; exact hne ad rfl) (hc k hlt)]
        simp [List.getElem?_eq_getElem hlt]
      have hb1 := hp.cell
      have hf1 := hp.frozen
      have hs := dfold_take h l k hlt
      have HS := Lib.hid hs
      clear hs hc hr hne
      go_wp2
      go_roundw
      case rel => exact ⟨k + 1, by omega, by go_num, by rw [HS.out]; exact hp.set⟩
      case measure => simp [intOf]; omega
    · go_wp2
      go_end0
      obtain rfl : k = l.length := by omega
      exact ⟨rfl, by simpa using hp⟩

set_option maxHeartbeats 400000 in
theorem words_any (A : Option Addr) (l : List Int) (c : Nat) (w : World) (hr : Rd w .i64 A l) :
    Calls Try.prog 61 #[.slice A l.length c] w fun e w' => e = .returned (.int .u64 (dwords l)) ∧ Gr w w' := by
  have hlen := hr.len
  go_enter Try.func61, Try.ntmps61
  go_wp2_with fail
  go_loopw [10] (fun i wr => ∃ k : Nat, k ≤ l.length ∧ i = .int .i64 k ∧ Gr w wr ∧ wr.heap[w.heap.size]? = some (.cells #[.int .u64 (dfold 512970876019 ((l.take k).map u64))] 102 (0, 0))) (fun i _ => l.length - (intOf i).toNat)
  case atStart => exact ⟨0, Nat.zero_le _, rfl, (Gr.refl w).alloc _, heap_new _ _⟩
  case round =>
    obtain ⟨k, hk, rfl, hg, hb⟩ := hrel
    by_cases hlt : k < l.length
    · have hr' := hr.gr hg
      obtain ⟨ad, rfl, hc⟩ := hr'.2 (by omega)
      have hx : wr.cell? (ad.add k) = some (.int .i64 l[k]) := by
        rw [hc k hlt]
        simp [List.getElem?_eq_getElem hlt]
      have hs := dfold_take_u64 512970876019 l k hlt
      have HS := Lib.hid hs
      have HG := Lib.hid hg
      have HB := Lib.hid hb
      have hsz := lt_of_heap hb
      clear hs hc hr hr' hg hb
      go_wp2_with fail
      refine (add_any w.heap.size (dfold 512970876019 ((l.take k).map u64)) _ [u64 l[k]] 1 _ (heap_old HB.out _) (fun ad e => by cases e; simp; omega) (Rd.lit (heap_new _ _) (by simp))).mono ?_
      rintro e w' ⟨rfl, hp⟩
      have hg1 : Gr w w' := (HG.out.alloc _).put hp (Nat.le_refl _)
      have hb1 := hp.at_
      have HG1 := Lib.hid hg1
      have HB1 := Lib.hid hb1
      clear hp hg1 hb1
      go_wp2
      go_roundw
      case rel => exact ⟨k + 1, by omega, by go_num, HG1.out, by rw [HS.out]; exact HB1.out⟩
      case measure => simp [intOf]; omega
    · have HG := Lib.hid hg
      have HB := Lib.hid hb
      have hsz := lt_of_heap hb
      obtain rfl : k = l.length := by omega
      clear hg hb
      go_wp2_with fail
      refine (add_any w.heap.size (dfold 512970876019 (l.map u64)) _ [(l.length : Int)] 1 _ (heap_old (by rw [List.take_length] at HB; exact HB.out) _) (fun ad e => by cases e; simp; omega) (Rd.lit (heap_new _ _) (by simp))).mono ?_
      rintro e w' ⟨rfl, hp⟩
      have hg1 : Gr w w' := (HG.out.alloc _).put hp (Nat.le_refl _)
      have hc := hp.cell
      clear hp
      go_wp2
      go_ret
      exact ⟨rfl, hg1⟩

set_option maxHeartbeats 400000 in
theorem tag_any (key : Int) (A : Option Addr) (l : List Int) (c : Nat) (w : World) (hr : Rd w .i64 A l) :
    Calls Try.prog 59 #[.int .u64 key, .slice A l.length c] w fun e w' => e = .returned (.int .u64 (dtag key l)) ∧ Gr w w' := by
  go_enter Try.func59, Try.ntmps59
  go_wp2_with fail
  refine (words_any A l c _ (hr.gr ((Gr.refl w).alloc _))).mono ?_
  rintro e w1 ⟨rfl, hg1⟩
  have hb1 := hg1.block (heap_new _ _)
  have hsz := lt_of_heap hb1
  have HB1 := Lib.hid hb1
  have HG1 := Lib.hid hg1
  clear hb1 hg1 hr
  go_wp2_with fail
  refine (add_any w.heap.size key _ [dwords l] 1 _ (heap_old HB1.out _) (fun ad e => by cases e; simp; omega) (Rd.lit (heap_new _ _) (by simp))).mono ?_
  rintro e w2 ⟨rfl, hp⟩
  have hg2 : Gr w w2 := ((((Gr.refl w).alloc _).trans HG1.out).alloc _).put hp (Nat.le_refl _)
  have hc := hp.cell
  clear hp
  go_wp2
  go_ret
  exact ⟨rfl, hg2⟩
end Go.Proofs.Ytjjpaghloaggeaa
