/- The step of the digest is injective in each argument, and so are joins and tags. -/
import Derived.Test.YtjjpaghloaggeaaDigPure
set_option linter.unusedVariables false
set_option linter.unusedSimpArgs false
namespace Go.Proofs.Ytjjpaghloaggeaa
open Go.RowKit
def bstep (h x : BitVec 64) : BitVec 64 := (((h ^^^ x) * 15485907386658061715#64) ^^^ (((h ^^^ x) * 15485907386658061715#64) >>> 32)) * 11562461410679940143#64
theorem wrapu_toNat (b : BitVec 64) : IntKind.u64.wrap (b.toNat : Int) = (b.toNat : Int) := by
  rw [wrapu_eq]; have := b.isLt; omega
theorem bits_xor (h x : Int) : Go.bits .xor .u64 h x = ((BitVec.ofInt 64 h ^^^ BitVec.ofInt 64 x).toNat : Int) := by
  unfold Go.bits
  exact wrapu_toNat _
theorem ofInt_toNat (b : BitVec 64) : BitVec.ofInt 64 (b.toNat : Int) = b := by
  apply BitVec.eq_of_toNat_eq
  simp
theorem wrapu_mul (b c : BitVec 64) : IntKind.u64.wrap ((b.toNat : Int) * (c.toNat : Int)) = ((b * c).toNat : Int) := by
  rw [wrapu_eq, BitVec.toNat_mul]; omega
theorem dstep_eq (h x : Int) : dstep h x = ((bstep (BitVec.ofInt 64 h) (BitVec.ofInt 64 x)).toNat : Int) := by
  unfold dstep bstep
  generalize hb : BitVec.ofInt 64 h ^^^ BitVec.ofInt 64 x = b
  have e1 : Go.bits .xor .u64 h x = (b.toNat : Int) := by rw [bits_xor, hb]
  have e2 : IntKind.u64.wrap ((b.toNat : Int) * 15485907386658061715) = ((b * 15485907386658061715#64).toNat : Int) := wrapu_mul b 15485907386658061715#64
  rw [e1, e2]
  generalize b * 15485907386658061715#64 = a
  have e3 : (a.toNat : Int) / (4294967296 : Int) = ((a >>> 32).toNat : Int) := by
    rw [BitVec.toNat_ushiftRight, Nat.shiftRight_eq_div_pow]
    have : (2 : Nat) ^ 32 = 4294967296 := by decide
    rw [this]; omega
  rw [e3, bits_xor, ofInt_toNat, ofInt_toNat]
  exact wrapu_mul (a ^^^ (a >>> 32)) 11562461410679940143#64
theorem xsh_inv (a : BitVec 64) : (a ^^^ (a >>> 32)) ^^^ ((a ^^^ (a >>> 32)) >>> 32) = a := by
  apply BitVec.eq_of_getLsbD_eq
  intro i hi
  simp only [BitVec.getLsbD_xor, BitVec.getLsbD_ushiftRight]
  have : a.getLsbD (32 + (32 + i)) = false := BitVec.getLsbD_of_ge _ _ (by omega)
  rw [this]
  cases a.getLsbD i <;> cases a.getLsbD (32 + i) <;> rfl
theorem mul1_inj {a b : BitVec 64} (h : a * 15485907386658061715#64 = b * 15485907386658061715#64) : a = b := by
  have h2 := congrArg (· * 14982988110149298331#64) h
  simp only [BitVec.mul_assoc] at h2
  have e : (15485907386658061715#64 * 14982988110149298331#64 : BitVec 64) = 1#64 := by decide
  rw [e, BitVec.mul_one, BitVec.mul_one] at h2
  exact h2
theorem mul2_inj {a b : BitVec 64} (h : a * 11562461410679940143#64 = b * 11562461410679940143#64) : a = b := by
  have h2 := congrArg (· * 10636502746458383055#64) h
  simp only [BitVec.mul_assoc] at h2
  have e : (11562461410679940143#64 * 10636502746458383055#64 : BitVec 64) = 1#64 := by decide
  rw [e, BitVec.mul_one, BitVec.mul_one] at h2
  exact h2
theorem bstep_xor {h x g y : BitVec 64} (e : bstep h x = bstep g y) : h ^^^ x = g ^^^ y := by
  unfold bstep at e
  have e1 := mul2_inj e
  have e2 : (h ^^^ x) * 15485907386658061715#64 = (g ^^^ y) * 15485907386658061715#64 := by
    rw [← xsh_inv ((h ^^^ x) * 15485907386658061715#64), ← xsh_inv ((g ^^^ y) * 15485907386658061715#64), e1]
  exact mul1_inj e2
/-- A number that 64 bits hold. -/
def U (n : Int) : Prop := 0 ≤ n ∧ n < 18446744073709551616
theorem ofInt_inj {a b : Int} (ha : U a) (hb : U b) (h : BitVec.ofInt 64 a = BitVec.ofInt 64 b) : a = b := by
  have h2 := congrArg BitVec.toNat h
  simp only [BitVec.toNat_ofInt] at h2
  unfold U at ha hb
  omega
theorem dstep_U (h x : Int) : U (dstep h x) := dstep_range h x
theorem dstep_right {h x y : Int} (hx : U x) (hy : U y) (e : dstep h x = dstep h y) : x = y := by
  rw [dstep_eq, dstep_eq] at e
  have e0 := Int.ofNat.inj e
  have e1 := bstep_xor (BitVec.eq_of_toNat_eq e0)
  have e2 := congrArg (BitVec.ofInt 64 h ^^^ ·) e1
  simp only [← BitVec.xor_assoc, BitVec.xor_self, BitVec.zero_xor] at e2
  exact ofInt_inj hx hy e2
theorem dstep_left {h g x : Int} (hh : U h) (hg : U g) (e : dstep h x = dstep g x) : h = g := by
  rw [dstep_eq, dstep_eq] at e
  have e0 := Int.ofNat.inj e
  have e1 := bstep_xor (BitVec.eq_of_toNat_eq e0)
  have e2 := congrArg (· ^^^ BitVec.ofInt 64 x) e1
  simp only [BitVec.xor_assoc, BitVec.xor_self, BitVec.xor_zero] at e2
  exact ofInt_inj hh hg e2
theorem djoin_U (a b : Int) : U (djoin a b) := dstep_U _ _
theorem djoin_left {a a' b : Int} (ha : U a) (ha' : U a') (e : djoin a b = djoin a' b) : a = a' := dstep_right ha ha' (dstep_left (dstep_U _ _) (dstep_U _ _) e)
theorem djoin_right {a b b' : Int} (hb : U b) (hb' : U b') (e : djoin a b = djoin a b') : b = b' := dstep_right hb hb' e
end Go.Proofs.Ytjjpaghloaggeaa
