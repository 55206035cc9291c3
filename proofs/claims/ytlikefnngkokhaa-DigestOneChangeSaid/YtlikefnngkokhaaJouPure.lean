/- Words as bytes, records, journals: plain data; no program. -/
import Derived.Test.YtlikefnngkokhaaDigR
set_option linter.unusedVariables false
set_option linter.unusedSimpArgs false
namespace Go.Proofs.Ytlikefnngkokhaa
open Go.RowKit
/-! ### words -/
def leSum : List Int → Int
  | [] => 0
  | b :: bs => b + 256 * leSum bs
def isB (l : List Int) : Prop := ∀ b ∈ l, 0 ≤ b ∧ b ≤ 255
theorem leSum_snoc (l : List Int) (b : Int) : leSum (l ++ [b]) = leSum l + b * 256 ^ l.length := by
  induction l with
  | nil => simp [leSum]
  | cons c l ih =>
    simp only [List.cons_append, leSum, ih, List.length_cons, Int.pow_succ]
    rw [Int.mul_add, Int.add_assoc]
    congr 2
    rw [Int.mul_comm 256 (b * 256 ^ l.length), Int.mul_assoc]
theorem leSum_range (l : List Int) (h : isB l) : 0 ≤ leSum l ∧ leSum l < 256 ^ l.length := by
  induction l with
  | nil => simp [leSum]
  | cons b l ih =>
    have h1 := ih (fun x hx => h x (by simp [hx]))
    have h2 := h b (by simp)
    simp only [leSum, List.length_cons, Int.pow_succ]
    omega
theorem pow2_mono {m n : Nat} (h : m ≤ n) : (2 : Int) ^ m ≤ 2 ^ n := by
  obtain ⟨k, rfl⟩ := Nat.le.dest h
  rw [Int.pow_add]
  have h1 : 0 < (2 : Int) ^ m := Int.pow_pos (by omega)
  have h2 : 0 < (2 : Int) ^ k := Int.pow_pos (by omega)
  have := Int.mul_le_mul_of_nonneg_left (show (1 : Int) ≤ 2 ^ k by omega) (Int.le_of_lt h1)
  rwa [Int.mul_one] at this
theorem pow256_mono {m n : Nat} (h : m ≤ n) : (256 : Int) ^ m ≤ 256 ^ n := by
  obtain ⟨k, rfl⟩ := Nat.le.dest h
  rw [Int.pow_add]
  have h1 : 0 < (256 : Int) ^ m := Int.pow_pos (by omega)
  have h2 : 0 < (256 : Int) ^ k := Int.pow_pos (by omega)
  have := Int.mul_le_mul_of_nonneg_left (show (1 : Int) ≤ 256 ^ k by omega) (Int.le_of_lt h1)
  rwa [Int.mul_one] at this
theorem or_add {a b : Nat} {i : Nat} (ha : a < 2 ^ i) : a ||| (b * 2 ^ i) = a + b * 2 ^ i := by
  have := Nat.shiftLeft_add_eq_or_of_lt ha b
  rw [Nat.shiftLeft_eq] at this
  rw [Nat.or_comm, ← this, Nat.add_comm]
theorem ibits_or {a b : Int} {i : Nat} (h0 : 0 ≤ a) (ha : a < 2 ^ i) (hb : 0 ≤ b) (h : a + b * 2 ^ i < 18446744073709551616) : ibits .or .u64 a (b * 2 ^ i) = a + b * 2 ^ i := by
  obtain ⟨a, rfl⟩ := Int.eq_ofNat_of_zero_le h0
  obtain ⟨b, rfl⟩ := Int.eq_ofNat_of_zero_le hb
  have e : ((b : Int) * 2 ^ i) = ((b * 2 ^ i : Nat) : Int) := by push_cast; rfl
  have ha' : a < 2 ^ i := by
    have : ((2 : Int) ^ i) = ((2 ^ i : Nat) : Int) := by push_cast; rfl
    rw [this] at ha; omega
  rw [e] at h ⊢
  have h2 : a + b * 2 ^ i < 18446744073709551616 := by omega
  have h3 := or_add (b := b) ha'
  show IntKind.u64.wrap ((BitVec.ofInt 64 (a : Int) ||| BitVec.ofInt 64 ((b * 2 ^ i : Nat) : Int)).toNat : Int) = _
  have e1 : (BitVec.ofInt 64 (a : Int) ||| BitVec.ofInt 64 ((b * 2 ^ i : Nat) : Int)).toNat = a + b * 2 ^ i := by
    rw [BitVec.toNat_or]
    simp only [BitVec.toNat_ofInt]
    have m1 : ((a : Int) % ((2 ^ 64 : Nat) : Int)).toNat = a := by
      have : ((2 ^ 64 : Nat) : Int) = 18446744073709551616 := rfl
      rw [this]; omega
    have m2 : (((b * 2 ^ i : Nat) : Int) % ((2 ^ 64 : Nat) : Int)).toNat = b * 2 ^ i := by
      have : ((2 ^ 64 : Nat) : Int) = 18446744073709551616 := rfl
      rw [this]; omega
    rw [m1, m2, h3]
  rw [e1]
  rw [wrapu_eq]; omega
/-- The word whose bytes begin at an offset, the lowest first. -/
def wordAt (l : List Int) (at_ : Nat) : Int := leSum ((l.drop at_).take 8)
def byteAt (n : Int) (i : Nat) : Int := n / 2 ^ (8 * i) % 256
def wbytes (n : Int) : List Int := (List.range 8).map (byteAt n)
theorem wbytes_length (n : Int) : (wbytes n).length = 8 := by simp [wbytes]
theorem wbytes_isB (n : Int) : isB (wbytes n) := by
  intro b hb
  simp only [wbytes, List.mem_map] at hb
  obtain ⟨i, _, rfl⟩ := hb
  unfold byteAt; omega
theorem wbytes_sum (n : Int) (h0 : 0 ≤ n) (h : n < 18446744073709551616) : leSum (wbytes n) = n := by
  simp only [wbytes, List.range, List.range.loop, List.map, leSum, byteAt]
  simp only [Nat.mul_zero, Nat.mul_one, Int.pow_zero, Nat.reduceMul, Int.reducePow]
  omega
theorem isB_take {l : List Int} (h : isB l) (n : Nat) : isB (l.take n) := fun b hb => h b (List.mem_of_mem_take hb)
theorem isB_drop {l : List Int} (h : isB l) (n : Nat) : isB (l.drop n) := fun b hb => h b (List.mem_of_mem_drop hb)
theorem wordAt_range {l : List Int} (h : isB l) (at_ : Nat) : 0 ≤ wordAt l at_ ∧ wordAt l at_ < 18446744073709551616 := by
  have h1 := leSum_range _ (isB_take (isB_drop h at_) 8)
  have h2 : ((l.drop at_).take 8).length ≤ 8 := by simp; omega
  have h3 : (256 : Int) ^ ((l.drop at_).take 8).length ≤ 256 ^ 8 := pow256_mono h2
  unfold wordAt
  have h4 : (256 : Int) ^ 8 = 18446744073709551616 := rfl
  omega
theorem pow_256 (k : Nat) : (256 : Int) ^ k = 2 ^ (8 * k) := by
  rw [Int.pow_mul]
  rfl
theorem drop_take_snoc {l : List Int} {at_ k : Nat} (h : at_ + k < l.length) : (l.drop at_).take (k + 1) = (l.drop at_).take k ++ [l[at_ + k]] := by
  rw [List.take_succ_eq_append_getElem (by simp; omega)]
  simp
/-- One more byte. -/
theorem leSum_step {l : List Int} (hB : isB l) {at_ k : Nat} (h : at_ + k < l.length) (hk : k < 8) : ibits .or .u64 (leSum ((l.drop at_).take k)) (IntKind.u64.wrap (l[at_ + k] * 2 ^ min (8 * (k : Int)).toNat 64)) = leSum ((l.drop at_).take (k + 1)) := by
  have hb := hB l[at_ + k] (List.getElem_mem _)
  have hr := leSum_range _ (isB_take (isB_drop hB at_) k)
  have hlen : ((l.drop at_).take k).length = k := by simp; omega
  rw [hlen, pow_256] at hr
  have e1 : min (8 * (k : Int)).toNat 64 = 8 * k := by omega
  rw [e1, drop_take_snoc h, leSum_snoc, hlen, pow_256]
  have hp : (2 : Int) ^ (8 * k) * 256 ≤ 18446744073709551616 := by
    have h1 : (2 : Int) ^ (8 * k) * 256 = 2 ^ (8 * k + 8) := by rw [Int.pow_add]; rfl
    rw [h1]
    have h2 : (2 : Int) ^ (8 * k + 8) ≤ 2 ^ 64 := pow2_mono (by omega)
    have h3 : (2 : Int) ^ 64 = 18446744073709551616 := rfl
    omega
  have hp0 : 0 < (2 : Int) ^ (8 * k) := Int.pow_pos (by omega)
  have hm : l[at_ + k] * 2 ^ (8 * k) ≤ 255 * 2 ^ (8 * k) := Int.mul_le_mul_of_nonneg_right hb.2 (by omega)
  have hm0 : 0 ≤ l[at_ + k] * 2 ^ (8 * k) := Int.mul_nonneg hb.1 (by omega)
  generalize hX : l[at_ + k] * 2 ^ (8 * k) = X at *
  generalize hY : (2 : Int) ^ (8 * k) = Y at *
  have hw : IntKind.u64.wrap X = X := InK.wrap (q := .u64) (by simp only [InK]; omega)
  rw [hw, ← hX, ← hY]
  refine ibits_or hr.1 (by rw [hY]; exact hr.2) hb.1 ?_
  rw [hY, hX]; omega
end Go.Proofs.Ytlikefnngkokhaa
