/- Links and packets as plain data, and how they lie in cells. -/
import Derived.Test.YtjjpaghloaggeaaExt
import Derived.Test.YtjjpaghloaggeaaDigR
set_option linter.unusedVariables false
set_option linter.unusedSimpArgs false
namespace Go.Proofs.Ytjjpaghloaggeaa
open Go.RowKit
structure Lk where
  key : Int
  out : List (List Int)
  base : Int
  inn : List (List Int)
  rcv : Int
deriving DecidableEq
structure Pk where
  seq : Int
  ack : Int
  data : List Int
  chk : Int
deriving DecidableEq
def lk0 : Lk := ⟨0, [], 0, [], 0⟩
def pk0 : Pk := ⟨0, 0, [], 0⟩
abbrev kB : Kd (List Int) := kSl (kInt .u8)
/-- A link's lists lie there. -/
structure LkAt (J : Im) (x : Lk) (A1 : Option Addr) (c1 : Nat) (A2 : Option Addr) (c2 : Nat) : Prop where
  kk : InK .u64 x.key
  kb : InK .i64 x.base
  kr : InK .i64 x.rcv
  oc : x.out.length ≤ c1
  oe : Els kB J A1 x.out
  ic : x.inn.length ≤ c2
  ie : Els kB J A2 x.inn
theorem LkAt.up {J K : Im} {x : Lk} {A1 A2 : Option Addr} {c1 c2 : Nat} (h : LkAt J x A1 c1 A2 c2) (hle : Im.le J K) : LkAt K x A1 c1 A2 c2 := ⟨h.kk, h.kb, h.kr, h.oc, h.oe.up hle, h.ic, h.ie.up hle⟩
theorem lkAt0 (J : Im) : LkAt J lk0 none 0 none 0 := ⟨by simp [lk0, InK], by simp [lk0, InK], by simp [lk0, InK], Nat.le_refl _, Els.nil _ _ _, Nat.le_refl _, Els.nil _ _ _⟩
structure PkAt (J : Im) (p : Pk) (A : Option Addr) (c : Nat) : Prop where
  ks : InK .i64 p.seq
  ka : InK .i64 p.ack
  kc : InK .u64 p.chk
  dc : p.data.length ≤ c
  de : Els (kInt .u8) J A p.data
theorem PkAt.up {J K : Im} {p : Pk} {A : Option Addr} {c : Nat} (h : PkAt J p A c) (hle : Im.le J K) : PkAt K p A c := ⟨h.ks, h.ka, h.kc, h.dc, h.de.up hle⟩
theorem pkAt0 (J : Im) : PkAt J pk0 none 0 := ⟨by simp [pk0, InK], by simp [pk0, InK], by simp [pk0, InK], Nat.le_refl _, Els.nil _ _ _⟩
/-- The other end's key. -/
def key1 (k : Int) : Int := ibits .xor .u64 k 1
def nums (p : Pk) : List Int := [p.seq, p.ack, (p.data.length : Int)] ++ p.data
noncomputable def ptag (key : Int) (p : Pk) : Int := dtag key (nums p)
def shortB (l : List (List Int)) : Bool := l.all fun d => decide (d.length ≤ 256)
def lvalid (l : Lk) : Bool := decide (l.out.length ≤ 32) && decide (l.inn.length ≤ 64) && shortB l.out && shortB l.inn && decide (0 ≤ l.base) && decide (l.base ≤ 1000000000 - l.out.length) && decide ((l.inn.length : Int) ≤ l.rcv) && decide (l.rcv ≤ 1000000000)
/-- What the functions ask of a link. -/
structure LkV (l : Lk) : Prop where
  o : l.out.length ≤ 32
  i : l.inn.length ≤ 64
  b0 : 0 ≤ l.base
  b1 : l.base + l.out.length ≤ 1000000000
  r0 : (l.inn.length : Int) ≤ l.rcv
  r1 : l.rcv ≤ 1000000000
  so : ∀ d ∈ l.out, d.length ≤ 256
  si : ∀ d ∈ l.inn, d.length ≤ 256
theorem lvalid_iff (l : Lk) : lvalid l = true ↔ LkV l := by
  simp only [lvalid, shortB, Bool.and_eq_true, decide_eq_true_eq, List.all_eq_true]
  constructor
  · rintro ⟨⟨⟨⟨⟨⟨⟨h1, h2⟩, h3⟩, h4⟩, h5⟩, h6⟩, h7⟩, h8⟩
    exact ⟨h1, h2, h5, by omega, h7, h8, h3, h4⟩
  · intro h
    exact ⟨⟨⟨⟨⟨⟨⟨h.o, h.i⟩, h.so⟩, h.si⟩, h.b0⟩, by have := h.b1; omega⟩, h.r0⟩, h.r1⟩
def sendE (l : Lk) (d : List Int) : Prop := 256 < d.length ∨ 32 ≤ l.out.length ∨ 1000000000 ≤ l.base + l.out.length
instance (l : Lk) (d : List Int) : Decidable (sendE l d) := by unfold sendE; infer_instance
def lsend (l : Lk) (d : List Int) : Lk := if sendE l d then lk0 else { l with out := l.out ++ [d] }
def lsendE (l : Lk) (d : List Int) : Int := if sendE l d then 2 else 0
def ltakeE (l : Lk) : Int := if l.inn.length = 0 then 4 else 0
def ltake (l : Lk) : Lk := if l.inn.length = 0 then lk0 else { l with inn := l.inn.drop 1 }
def ltakeD (l : Lk) : List Int := l.inn.headD []
noncomputable def lsigned (l : Lk) (seq : Int) (d : List Int) : Pk := ⟨seq, l.rcv, d, ptag (key1 l.key) ⟨seq, l.rcv, d, 0⟩⟩
def packE (l : Lk) (i : Int) : Prop := i < 0 ∨ (l.out.length : Int) ≤ i
instance (l : Lk) (i : Int) : Decidable (packE l i) := by unfold packE; infer_instance
noncomputable def lpacket (l : Lk) (i : Int) : Pk := if packE l i then pk0 else lsigned l (l.base + i) (l.out.getD i.toNat [])
def lpacketE (l : Lk) (i : Int) : Int := if packE l i then 4 else 0
/-- A packet that may have been sent by the other end. -/
def lacc (l : Lk) (p : Pk) : Prop := ¬ (p.seq < -1 ∨ (p.seq < 0 ∧ 0 < p.data.length) ∨ p.ack < 0 ∨ l.base + l.out.length < p.ack ∨ 256 < p.data.length) ∧ p.chk = ptag l.key p
noncomputable instance (l : Lk) (p : Pk) : Decidable (lacc l p) := by unfold lacc; infer_instance
def lrec1 (l : Lk) (p : Pk) : Lk := if l.base < p.ack then { l with out := l.out.drop (p.ack - l.base).toNat, base := p.ack } else l
def lrec2 (l : Lk) (p : Pk) : Lk := if p.seq = l.rcv ∧ l.inn.length < 64 ∧ l.rcv < 1000000000 then { l with inn := l.inn ++ [p.data], rcv := l.rcv + 1 } else l
noncomputable def lrec (l : Lk) (p : Pk) : Lk := if lacc l p then lrec2 (lrec1 l p) p else lk0
noncomputable def lrecE (l : Lk) (p : Pk) : Int := if lacc l p then 0 else 500
end Go.Proofs.Ytjjpaghloaggeaa
