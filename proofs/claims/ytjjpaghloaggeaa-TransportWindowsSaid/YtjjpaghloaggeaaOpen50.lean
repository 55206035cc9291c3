/- The arguments of the links' laws, opened. -/
import Derived.Test.YtjjpaghloaggeaaOpenG
import Derived.Test.YtjjpaghloaggeaaTrP
import Derived.Test.YtjjpaghloaggeaaChecked
set_option linter.unusedVariables false
set_option linter.unusedSimpArgs false
namespace Go.Proofs.Ytjjpaghloaggeaa
open Go.ChangeShapes Go.WideShapes Go.ChangeAt Go.RowKit
variable {H : Type} {enc : TypeId × Value → H} {w : World} {base base' : Nat} {held : Bool} {r : Reach}
theorem opens_bytes : Opens enc Try.prog w base held 23 (kSl (kInt .u8)) := opens_slice Try.underlying23 (by kernel_rfl) (by decide) (opens_int Try.underlying5)
theorem opens_msgs : Opens enc Try.prog w base held 24 (kSl kB) := opens_slice Try.underlying24 (by kernel_rfl) (by decide) opens_bytes
theorem opens_link : Opens enc Try.prog w base held 26 (kPair (kInt .u64) (kPair (kSl kB) (kPair (kInt .i64) (kPair (kSl kB) (kInt .i64))))) :=
  opens_struct Try.underlying26 (by kernel_rfl)
    (opF_cons rfl (by kernel_rfl) (opens_int Try.underlying22) (opF_cons rfl (by kernel_rfl) opens_msgs (opF_cons rfl (by kernel_rfl) (opens_int Try.underlying3) (opF_cons rfl (by kernel_rfl) opens_msgs (opF_one rfl (by kernel_rfl) (opens_int Try.underlying3))))))
theorem opens_packet : Opens enc Try.prog w base held 28 (kPair (kInt .i64) (kPair (kInt .i64) (kPair (kSl (kInt .u8)) (kInt .u64)))) :=
  opens_struct Try.underlying28 (by kernel_rfl)
    (opF_cons rfl (by kernel_rfl) (opens_int Try.underlying3) (opF_cons rfl (by kernel_rfl) (opens_int Try.underlying3) (opF_cons rfl (by kernel_rfl) opens_bytes (opF_one rfl (by kernel_rfl) (opens_int Try.underlying22)))))
set_option maxRecDepth 100000 in
theorem open_bytes {v : Value} {dd : DataW H} {p : List MemPlace} (hok : Value.okWide Try.prog w r base' 23 v) (h : DataW.Trod enc Try.prog w base (fun _ => true) held 23 v dd p) :
    ∃ (A : Option Addr) (l : List Int) (c : Nat), v = .slice A l.length c ∧ l.length ≤ c ∧ Els (kInt .u8) (imOf w) A l := open_slice Try.underlying23 opens_bytes hok h
set_option maxRecDepth 100000 in
theorem open_pk {v : Value} {dd : DataW H} {q : List MemPlace} (hok : Value.okWide Try.prog w r base' 28 v) (h : DataW.Trod enc Try.prog w base (fun _ => true) held 28 v dd q) :
    ∃ (p : Pk) (A : Option Addr) (c : Nat), v = .agg #[.int .i64 p.seq, .int .i64 p.ack, .slice A p.data.length c, .int .u64 p.chk] ∧ PkAt (imOf w) p A c := by
  obtain ⟨cs, y, rfl, hy⟩ := open_agg Try.underlying28 opens_packet hok h
  obtain ⟨_, _, rfl, ⟨rfl, h1⟩, _, _, rfl, ⟨rfl, h2⟩, _, _, rfl, ⟨A, c, rfl, hc, hE⟩, rfl, h4⟩ := hy
  exact ⟨⟨_, _, _, _⟩, A, c, rfl, ⟨h1, h2, h4, hc, hE⟩⟩
set_option maxRecDepth 100000 in
theorem open_odd {v : Value} {dd : DataW H} {q : List MemPlace} (hok : Value.okWide Try.prog w r base' 30 v) (h : DataW.Trod enc Try.prog w base (fun _ => true) held 30 v dd q) :
    ∃ (x : Lk) (A1 : Option Addr) (c1 : Nat) (A2 : Option Addr) (c2 : Nat) (p : Pk) (D : Option Addr) (cd : Nat) (d : List Int) (E : Option Addr) (ce : Nat) (i : Int),
      v = .agg #[.int .u64 x.key, .slice A1 x.out.length c1, .int .i64 x.base, .slice A2 x.inn.length c2, .int .i64 x.rcv, .int .i64 p.seq, .int .i64 p.ack, .slice D p.data.length cd, .int .u64 p.chk, .slice E d.length ce, .int .i64 i] ∧
      LkAt (imOf w) x A1 c1 A2 c2 ∧ PkAt (imOf w) p D cd ∧ Els (kInt .u8) (imOf w) E d ∧ d.length ≤ ce ∧ InK .i64 i := by
  obtain ⟨cs, y, rfl, hy⟩ := open_agg Try.underlying30 (opens_struct Try.underlying30 (by kernel_rfl)
    (opF_cons rfl (by kernel_rfl) opens_link (opF_cons rfl (by kernel_rfl) opens_packet (opF_cons rfl (by kernel_rfl) opens_bytes (opF_one rfl (by kernel_rfl) (opens_int Try.underlying3)))))) hok h
  obtain ⟨_, _, rfl, ⟨_, _, rfl, ⟨rfl, a1⟩, _, _, rfl, ⟨A1, c1, rfl, k1, E1⟩, _, _, rfl, ⟨rfl, a3⟩, _, _, rfl, ⟨A2, c2, rfl, k2, E2⟩, rfl, a5⟩, _, _, rfl, ⟨_, _, rfl, ⟨rfl, b1⟩, _, _, rfl, ⟨rfl, b2⟩, _, _, rfl, ⟨D, cd, rfl, k3, E3⟩, rfl, b4⟩, _, _, rfl, ⟨E, ce, rfl, k4, E4⟩, rfl, hi⟩ := hy
  exact ⟨⟨_, _, _, _, _⟩, A1, c1, A2, c2, ⟨_, _, _, _⟩, D, cd, _, E, ce, _, rfl, ⟨a1, a3, a5, k1, E1, k2, E2⟩, ⟨b1, b2, b4, k3, E3⟩, E4, k4, hi⟩
end Go.Proofs.Ytjjpaghloaggeaa
