/-
  PLAIN: the sums by which Go's OnesCount64 counts the ones of a number of 64 bits. No condition; no program in sight.
-/
import Derived.Test.YtmkpaifcgjldbaaDoorUnNum
namespace Go.Proofs.YtmkpaifcgjldbaaDoor
open Go.RowKit
/-- the sum of the lowest n digits to the base R. -/
def tot (R : Nat) : Nat → Nat → Nat
  | 0, _ => 0
  | n + 1, x => x % R + tot R n (x / R)
theorem tot_two (n : Nat) : ∀ x, tot 2 n x = pcF n x := by
  induction n with
  | zero => intro x; rfl
  | succ n ih =>
    intro x
    show x % 2 + tot 2 n (x / 2) = x % 2 + pcF n (x / 2)
    rw [ih]
theorem and_split (k q d q' d' : Nat) (h : d < 2 ^ k) (h' : d' < 2 ^ k) : (2 ^ k * q + d) &&& (2 ^ k * q' + d') = 2 ^ k * (q &&& q') + (d &&& d') := by
  have h2 : d &&& d' < 2 ^ k := Nat.and_lt_two_pow _ h'
  apply Nat.eq_of_testBit_eq
  intro i
  rw [Nat.testBit_and, Nat.testBit_two_pow_mul_add _ h, Nat.testBit_two_pow_mul_add _ h', Nat.testBit_two_pow_mul_add _ h2]
  split <;> simp [Nat.testBit_and]

/-! fields of 4 -/
def mkA : Nat → Nat
  | 0 => 0
  | n + 1 => 4 * mkA n + 1
def SA : Nat → Nat → Nat
  | 0, _ => 0
  | n + 1, x => 4 * SA n (x / 4) + (x % 4 % 2 + x % 4 / 2)
theorem andA (q d m : Nat) (h : d < 4) : (4 * q + d) &&& (4 * m + 1) = 4 * (q &&& m) + d % 2 := by
  have := and_split 2 q d m 1 h (by decide)
  rw [show (2 : Nat) ^ 2 = 4 from rfl] at this
  rw [this, show (1 : Nat) = 2 ^ 1 - 1 from rfl, Nat.and_two_pow_sub_one_eq_mod]
theorem totA (n : Nat) : ∀ x, tot 4 n (SA n x) = tot 2 (2 * n) x := by
  induction n with
  | zero => intro x; rfl
  | succ n ih =>
    intro x
    have e1 : SA (n + 1) x % 4 = x % 4 % 2 + x % 4 / 2 := by
      show (4 * SA n (x / 4) + (x % 4 % 2 + x % 4 / 2)) % 4 = _
      omega
    have e2 : SA (n + 1) x / 4 = SA n (x / 4) := by
      show (4 * SA n (x / 4) + (x % 4 % 2 + x % 4 / 2)) / 4 = _
      omega
    rw [show tot 4 (n + 1) (SA (n + 1) x) = SA (n + 1) x % 4 + tot 4 n (SA (n + 1) x / 4) from rfl, e1, e2, ih]
    rw [show 2 * (n + 1) = 2 * n + 1 + 1 by omega, show tot 2 (2 * n + 1 + 1) x = x % 2 + (x / 2 % 2 + tot 2 (2 * n) (x / 2 / 2)) from rfl]
    rw [show x / 2 / 2 = x / 4 by omega]
    omega
theorem stA (n : Nat) : ∀ x, (x / 2 &&& mkA n) + (x &&& mkA n) = SA n x := by
  induction n with
  | zero => intro x; simp [mkA, SA]
  | succ n ih =>
    intro x
    have a1 := andA (x / 4) (x % 4) (mkA n) (by omega)
    have a2 := andA (x / 4 / 2) (2 * (x / 4 % 2) + x % 4 / 2) (mkA n) (by omega)
    rw [show 4 * (x / 4) + x % 4 = x by omega] at a1
    rw [show 4 * (x / 4 / 2) + (2 * (x / 4 % 2) + x % 4 / 2) = x / 2 by omega] at a2
    show (x / 2 &&& (4 * mkA n + 1)) + (x &&& (4 * mkA n + 1)) = 4 * SA n (x / 4) + (x % 4 % 2 + x % 4 / 2)
    rw [a1, a2, ← ih]
    omega


/-! fields of 16 -/
def mkB : Nat → Nat
  | 0 => 0
  | n + 1 => 16 * mkB n + 3
def SB : Nat → Nat → Nat
  | 0, _ => 0
  | n + 1, x => 16 * SB n (x / 16) + (x % 16 % 4 + x % 16 / 4)
theorem andB (q d m : Nat) (h : d < 16) : (16 * q + d) &&& (16 * m + 3) = 16 * (q &&& m) + d % 4 := by
  have := and_split 4 q d m 3 h (by decide)
  rw [show (2 : Nat) ^ 4 = 16 from rfl] at this
  rw [this, show (3 : Nat) = 2 ^ 2 - 1 from rfl, Nat.and_two_pow_sub_one_eq_mod]
theorem totB (n : Nat) : ∀ x, tot 16 n (SB n x) = tot 4 (2 * n) x := by
  induction n with
  | zero => intro x; rfl
  | succ n ih =>
    intro x
    have e1 : SB (n + 1) x % 16 = x % 16 % 4 + x % 16 / 4 := by
      show (16 * SB n (x / 16) + (x % 16 % 4 + x % 16 / 4)) % 16 = _
      omega
    have e2 : SB (n + 1) x / 16 = SB n (x / 16) := by
      show (16 * SB n (x / 16) + (x % 16 % 4 + x % 16 / 4)) / 16 = _
      omega
    rw [show tot 16 (n + 1) (SB (n + 1) x) = SB (n + 1) x % 16 + tot 16 n (SB (n + 1) x / 16) from rfl, e1, e2, ih]
    rw [show 2 * (n + 1) = 2 * n + 1 + 1 by omega, show tot 4 (2 * n + 1 + 1) x = x % 4 + (x / 4 % 4 + tot 4 (2 * n) (x / 4 / 4)) from rfl]
    rw [show x / 4 / 4 = x / 16 by omega]
    omega
theorem stB (n : Nat) : ∀ x, (x / 4 &&& mkB n) + (x &&& mkB n) = SB n x := by
  induction n with
  | zero => intro x; simp [mkB, SB]
  | succ n ih =>
    intro x
    have a1 := andB (x / 16) (x % 16) (mkB n) (by omega)
    have a2 := andB (x / 16 / 4) (4 * (x / 16 % 4) + x % 16 / 4) (mkB n) (by omega)
    rw [show 16 * (x / 16) + x % 16 = x by omega] at a1
    rw [show 16 * (x / 16 / 4) + (4 * (x / 16 % 4) + x % 16 / 4) = x / 4 by omega] at a2
    show (x / 4 &&& (16 * mkB n + 3)) + (x &&& (16 * mkB n + 3)) = 16 * SB n (x / 16) + (x % 16 % 4 + x % 16 / 4)
    rw [a1, a2, ← ih]
    omega


/-! fields of 256 -/
def mkC : Nat → Nat
  | 0 => 0
  | n + 1 => 256 * mkC n + 15
def SC : Nat → Nat → Nat
  | 0, _ => 0
  | n + 1, x => 256 * SC n (x / 256) + (x % 256 % 16 + x % 256 / 16)
theorem andC (q d m : Nat) (h : d < 256) : (256 * q + d) &&& (256 * m + 15) = 256 * (q &&& m) + d % 16 := by
  have := and_split 8 q d m 15 h (by decide)
  rw [show (2 : Nat) ^ 8 = 256 from rfl] at this
  rw [this, show (15 : Nat) = 2 ^ 4 - 1 from rfl, Nat.and_two_pow_sub_one_eq_mod]
theorem totC (n : Nat) : ∀ x, tot 256 n (SC n x) = tot 16 (2 * n) x := by
  induction n with
  | zero => intro x; rfl
  | succ n ih =>
    intro x
    have e1 : SC (n + 1) x % 256 = x % 256 % 16 + x % 256 / 16 := by
      show (256 * SC n (x / 256) + (x % 256 % 16 + x % 256 / 16)) % 256 = _
      omega
    have e2 : SC (n + 1) x / 256 = SC n (x / 256) := by
      show (256 * SC n (x / 256) + (x % 256 % 16 + x % 256 / 16)) / 256 = _
      omega
    rw [show tot 256 (n + 1) (SC (n + 1) x) = SC (n + 1) x % 256 + tot 256 n (SC (n + 1) x / 256) from rfl, e1, e2, ih]
    rw [show 2 * (n + 1) = 2 * n + 1 + 1 by omega, show tot 16 (2 * n + 1 + 1) x = x % 16 + (x / 16 % 16 + tot 16 (2 * n) (x / 16 / 16)) from rfl]
    rw [show x / 16 / 16 = x / 256 by omega]
    omega


/-! how great the fields grow -/
def QA : Nat → Nat → Prop
  | 0, _ => True
  | n + 1, x => x % 4 ≤ 2 ∧ x / 4 % 4 ≤ 2 ∧ QA n (x / 16)
def QB : Nat → Nat → Prop
  | 0, _ => True
  | n + 1, x => x % 16 ≤ 4 ∧ x / 16 % 16 ≤ 4 ∧ QB n (x / 256)
theorem qa (n : Nat) : ∀ x, QA n (SA (2 * n) x) := by
  induction n with
  | zero => intro x; trivial
  | succ n ih =>
    intro x
    have e : SA (2 * (n + 1)) x = 4 * (4 * SA (2 * n) (x / 4 / 4) + (x / 4 % 4 % 2 + x / 4 % 4 / 2)) + (x % 4 % 2 + x % 4 / 2) := rfl
    rw [e]
    refine ⟨by omega, by omega, ?_⟩
    have e2 : (4 * (4 * SA (2 * n) (x / 4 / 4) + (x / 4 % 4 % 2 + x / 4 % 4 / 2)) + (x % 4 % 2 + x % 4 / 2)) / 16 = SA (2 * n) (x / 4 / 4) := by omega
    rw [e2]
    exact ih _
theorem qb (n : Nat) : ∀ x, QA (2 * n) x → QB n (SB (2 * n) x) := by
  induction n with
  | zero => intro x _; trivial
  | succ n ih =>
    intro x hx
    have e : SB (2 * (n + 1)) x = 16 * (16 * SB (2 * n) (x / 16 / 16) + (x / 16 % 16 % 4 + x / 16 % 16 / 4)) + (x % 16 % 4 + x % 16 / 4) := rfl
    obtain ⟨h1, h2, h3, h4, h5⟩ : x % 4 ≤ 2 ∧ x / 4 % 4 ≤ 2 ∧ x / 16 % 4 ≤ 2 ∧ x / 16 / 4 % 4 ≤ 2 ∧ QA (2 * n) (x / 16 / 16) := hx
    rw [e]
    have f1 : x % 16 % 4 + x % 16 / 4 ≤ 4 := by
      have g1 : x % 16 % 4 = x % 4 := by omega
      have g2 : x % 16 / 4 = x / 4 % 4 := by omega
      omega
    have f2 : x / 16 % 16 % 4 + x / 16 % 16 / 4 ≤ 4 := by
      have g1 : x / 16 % 16 % 4 = x / 16 % 4 := by omega
      have g2 : x / 16 % 16 / 4 = x / 16 / 4 % 4 := by omega
      omega
    clear h1 h2 h3 h4 e
    generalize x % 16 % 4 + x % 16 / 4 = s1 at *
    generalize x / 16 % 16 % 4 + x / 16 % 16 / 4 = s2 at *
    refine ⟨by omega, by omega, ?_⟩
    have e2 : (16 * (16 * SB (2 * n) (x / 16 / 16) + s2) + s1) / 256 = SB (2 * n) (x / 16 / 16) := by omega
    rw [e2]
    exact ih _ h5
theorem stC (n : Nat) : ∀ x, QB n x → (x / 16 + x) &&& mkC n = SC n x := by
  induction n with
  | zero => intro x _; simp [mkC, SC]
  | succ n ih =>
    intro x hx
    obtain ⟨h1, h2, h3⟩ : x % 16 ≤ 4 ∧ x / 16 % 16 ≤ 4 ∧ QB n (x / 256) := hx
    have f1 : x % 256 % 16 = x % 16 := by omega
    have f2 : x % 256 / 16 = x / 16 % 16 := by omega
    cases n with
    | zero =>
      have a1 := andC ((x / 16 + x) / 256) ((x / 16 + x) % 256) 0 (by omega)
      rw [show 256 * ((x / 16 + x) / 256) + (x / 16 + x) % 256 = x / 16 + x by omega] at a1
      show (x / 16 + x) &&& (256 * 0 + 15) = 256 * 0 + (x % 256 % 16 + x % 256 / 16)
      rw [a1, Nat.and_zero, f1, f2]
      clear a1 ih h3
      omega
    | succ n =>
      have h4 : x / 256 % 16 ≤ 4 := h3.1
      have a1 := andC (x / 256 / 16 + x / 256) (16 * (x / 256 % 16) + x % 256 / 16 + x % 256) (mkC (n + 1)) (by omega)
      rw [show 256 * (x / 256 / 16 + x / 256) + (16 * (x / 256 % 16) + x % 256 / 16 + x % 256) = x / 16 + x by omega, ih _ h3] at a1
      show (x / 16 + x) &&& (256 * mkC (n + 1) + 15) = 256 * SC (n + 1) (x / 256) + (x % 256 % 16 + x % 256 / 16)
      rw [a1, f1, f2]
      clear a1 ih h3
      congr 1
      omega
def EC : Nat → Nat → Prop
  | 0, x => x = 0
  | n + 1, x => x % 256 ≤ 8 ∧ EC n (x / 256)
theorem ec (n : Nat) : ∀ x, QB n x → EC n (SC n x) := by
  induction n with
  | zero => intro x _; rfl
  | succ n ih =>
    intro x hx
    obtain ⟨h1, h2, h3⟩ : x % 16 ≤ 4 ∧ x / 16 % 16 ≤ 4 ∧ QB n (x / 256) := hx
    have f1 : x % 256 % 16 = x % 16 := by omega
    have f2 : x % 256 / 16 = x / 16 % 16 := by omega
    show (256 * SC n (x / 256) + (x % 256 % 16 + x % 256 / 16)) % 256 ≤ 8 ∧ EC n ((256 * SC n (x / 256) + (x % 256 % 16 + x % 256 / 16)) / 256)
    rw [f1, f2]
    generalize hA : x % 16 = sA at *
    generalize hB : x / 16 % 16 = sB at *
    clear f1 f2 hA hB
    refine ⟨by omega, ?_⟩
    rw [show (256 * SC n (x / 256) + (sA + sB)) / 256 = SC n (x / 256) by omega]
    exact ih _ h3
theorem last_sum (a0 a1 a2 a3 a4 a5 a6 a7 z : Nat) (h0 : a0 ≤ 8) (h1 : a1 ≤ 8) (h2 : a2 ≤ 8) (h3 : a3 ≤ 8) (h4 : a4 ≤ 8) (h5 : a5 ≤ 8) (h6 : a6 ≤ 8) (h7 : a7 ≤ 8)
    (hz : z = a0 + 256 * a1 + 65536 * a2 + 16777216 * a3 + 4294967296 * a4 + 1099511627776 * a5 + 281474976710656 * a6 + 72057594037927936 * a7) :
    (z + z / 256 + (z + z / 256) / 65536 + (z + z / 256 + (z + z / 256) / 65536) / 4294967296) % 128 = a0 + a1 + a2 + a3 + a4 + a5 + a6 + a7 := by
  have e1 : z / 256 = a1 + 256 * a2 + 65536 * a3 + 16777216 * a4 + 4294967296 * a5 + 1099511627776 * a6 + 281474976710656 * a7 := by omega
  obtain ⟨x, hx⟩ : ∃ x, x = z + z / 256 := ⟨_, rfl⟩
  rw [← hx]
  rw [e1] at hx
  have e2 : x / 65536 = (a2 + a3) + 256 * (a3 + a4) + 65536 * (a4 + a5) + 16777216 * (a5 + a6) + 4294967296 * (a6 + a7) + 1099511627776 * a7 := by omega
  obtain ⟨y, hy⟩ : ∃ y, y = x + x / 65536 := ⟨_, rfl⟩
  rw [← hy]
  rw [e2] at hy
  have e3 : y / 4294967296 = (a4 + a5 + a6 + a7) + 256 * (a5 + a6 + a7) + 65536 * (a6 + a7) + 16777216 * a7 := by omega
  rw [e3]
  clear e1 e2 e3
  omega
/-- the last three sums. -/
theorem last (z : Nat) (h : EC 8 z) : z < 1152921504606846976 ∧ (z + z / 256 + (z + z / 256) / 65536 + (z + z / 256 + (z + z / 256) / 65536) / 4294967296) % 128 = tot 256 8 z := by
  obtain ⟨h0, h1, h2, h3, h4, h5, h6, h7, h8⟩ := h
  change z / 256 / 256 / 256 / 256 / 256 / 256 / 256 / 256 = 0 at h8
  obtain ⟨z1, e1⟩ : ∃ y, y = z / 256 := ⟨_, rfl⟩
  rw [← e1] at h1 h2 h3 h4 h5 h6 h7 h8
  obtain ⟨z2, e2⟩ : ∃ y, y = z1 / 256 := ⟨_, rfl⟩
  rw [← e2] at h2 h3 h4 h5 h6 h7 h8
  obtain ⟨z3, e3⟩ : ∃ y, y = z2 / 256 := ⟨_, rfl⟩
  rw [← e3] at h3 h4 h5 h6 h7 h8
  obtain ⟨z4, e4⟩ : ∃ y, y = z3 / 256 := ⟨_, rfl⟩
  rw [← e4] at h4 h5 h6 h7 h8
  obtain ⟨z5, e5⟩ : ∃ y, y = z4 / 256 := ⟨_, rfl⟩
  rw [← e5] at h5 h6 h7 h8
  obtain ⟨z6, e6⟩ : ∃ y, y = z5 / 256 := ⟨_, rfl⟩
  rw [← e6] at h6 h7 h8
  obtain ⟨z7, e7⟩ : ∃ y, y = z6 / 256 := ⟨_, rfl⟩
  rw [← e7] at h7 h8
  have t : tot 256 8 z = z % 256 + (z1 % 256 + (z2 % 256 + (z3 % 256 + (z4 % 256 + (z5 % 256 + (z6 % 256 + (z7 % 256 + 0))))))) := by
    rw [e7, e6, e5, e4, e3, e2, e1]
    rfl
  have d7 : z7 = z7 % 256 := by omega
  have d6 : z6 = 256 * z7 + z6 % 256 := by omega
  have d5 : z5 = 256 * z6 + z5 % 256 := by omega
  have d4 : z4 = 256 * z5 + z4 % 256 := by omega
  have d3 : z3 = 256 * z4 + z3 % 256 := by omega
  have d2 : z2 = 256 * z3 + z2 % 256 := by omega
  have d1 : z1 = 256 * z2 + z1 % 256 := by omega
  have d0 : z = 256 * z1 + z % 256 := by omega
  rw [t]
  clear e1 e2 e3 e4 e5 e6 e7 h8 t
  generalize z % 256 = a0 at *
  generalize z1 % 256 = a1 at *
  generalize z2 % 256 = a2 at *
  generalize z3 % 256 = a3 at *
  generalize z4 % 256 = a4 at *
  generalize z5 % 256 = a5 at *
  generalize z6 % 256 = a6 at *
  generalize z7 % 256 = a7 at *
  have hz : z = a0 + 256 * a1 + 65536 * a2 + 16777216 * a3 + 4294967296 * a4 + 1099511627776 * a5 + 281474976710656 * a6 + 72057594037927936 * a7 := by omega
  refine ⟨by omega, ?_⟩
  rw [last_sum a0 a1 a2 a3 a4 a5 a6 a7 z h0 h1 h2 h3 h4 h5 h6 h7 hz]
  omega
/-! the six steps as Go takes them -/
def f1 (x : Int) : Int := IntKind.u64.wrap (bits .and .u64 (x / 2) 6148914691236517205 + bits .and .u64 x 6148914691236517205)
def f2 (x : Int) : Int := IntKind.u64.wrap (bits .and .u64 (x / 4) 3689348814741910323 + bits .and .u64 x 3689348814741910323)
def f3 (x : Int) : Int := bits .and .u64 (IntKind.u64.wrap (x / 16 + x)) 1085102592571150095
def f4 (x : Int) : Int := IntKind.u64.wrap (x + x / 256)
def f5 (x : Int) : Int := IntKind.u64.wrap (x + x / 65536)
def f6 (x : Int) : Int := IntKind.u64.wrap (x + x / 4294967296)
theorem wr {z : Int} (h0 : 0 ≤ z) (h1 : z < 18446744073709551616) : IntKind.u64.wrap z = z := by
  rw [show IntKind.u64.wrap z = z % 18446744073709551616 by simp [IntKind.wrap, IntKind.bits, IntKind.signed]]
  omega
theorem f1_eq (n : Nat) (h : n < 18446744073709551616) : f1 (n : Int) = ((SA 32 n : Nat) : Int) := by
  have hm : mkA 32 = 6148914691236517205 := by decide +kernel
  have hs := stA 32 n
  rw [hm] at hs
  have b1 : n / 2 &&& 6148914691236517205 ≤ 6148914691236517205 := Nat.and_le_right
  have b2 : n &&& 6148914691236517205 ≤ 6148914691236517205 := Nat.and_le_right
  unfold f1
  rw [show ((n : Int) / 2) = ((n / 2 : Nat) : Int) by omega, show (6148914691236517205 : Int) = ((6148914691236517205 : Nat) : Int) from rfl, u64_and_nat _ _ (by omega) (by decide), u64_and_nat _ _ h (by decide), wr (by omega) (by omega)]
  omega
theorem f2_eq (n : Nat) (h : n < 18446744073709551616) : f2 (n : Int) = ((SB 16 n : Nat) : Int) := by
  have hm : mkB 16 = 3689348814741910323 := by decide +kernel
  have hs := stB 16 n
  rw [hm] at hs
  have b1 : n / 4 &&& 3689348814741910323 ≤ 3689348814741910323 := Nat.and_le_right
  have b2 : n &&& 3689348814741910323 ≤ 3689348814741910323 := Nat.and_le_right
  unfold f2
  rw [show ((n : Int) / 4) = ((n / 4 : Nat) : Int) by omega, show (3689348814741910323 : Int) = ((3689348814741910323 : Nat) : Int) from rfl, u64_and_nat _ _ (by omega) (by decide), u64_and_nat _ _ h (by decide), wr (by omega) (by omega)]
  omega
theorem f3_eq (n : Nat) (h : n ≤ 7378697629483820646) (hq : QB 8 n) : f3 (n : Int) = ((SC 8 n : Nat) : Int) := by
  have hm : mkC 8 = 1085102592571150095 := by decide +kernel
  have hs := stC 8 n hq
  rw [hm] at hs
  unfold f3
  rw [wr (by omega) (by omega), show ((n : Int) / 16 + (n : Int)) = ((n / 16 + n : Nat) : Int) by omega, show (1085102592571150095 : Int) = ((1085102592571150095 : Nat) : Int) from rfl, u64_and_nat _ _ (by omega) (by decide), hs]
theorem g4 (z : Nat) (q3 : EC 8 z) : bits .and .i64 (wrap64 (f6 (f5 (f4 (z : Int))))) 127 = ((tot 256 8 z : Nat) : Int) := by
  obtain ⟨hz, hl⟩ := last z q3
  have e4 : f4 (z : Int) = ((z + z / 256 : Nat) : Int) := by
    unfold f4
    rw [wr (by omega) (by omega)]
    omega
  have e5 : f5 ((z + z / 256 : Nat) : Int) = ((z + z / 256 + (z + z / 256) / 65536 : Nat) : Int) := by
    unfold f5
    rw [wr (by omega) (by omega)]
    omega
  have e6 : f6 ((z + z / 256 + (z + z / 256) / 65536 : Nat) : Int) = ((z + z / 256 + (z + z / 256) / 65536 + (z + z / 256 + (z + z / 256) / 65536) / 4294967296 : Nat) : Int) := by
    unfold f6
    rw [wr (by omega) (by omega)]
    omega
  rw [e4, e5, e6, ← hl]
  have hb : z + z / 256 + (z + z / 256) / 65536 + (z + z / 256 + (z + z / 256) / 65536) / 4294967296 < 9223372036854775808 := by omega
  clear e4 e5 e6 hl hz q3
  generalize z + z / 256 + (z + z / 256) / 65536 + (z + z / 256 + (z + z / 256) / 65536) / 4294967296 = v at hb ⊢
  have ew : wrap64 ((v : Nat) : Int) = (v : Int) := by unfold wrap64; omega
  have em := bits_mask .i64 63 (by decide) (fun m h0 h1 => by rw [IntKind.wrap_i64]; omega) 7 (by decide) (v : Int) (by omega) (by omega)
  rw [ew]
  refine Eq.trans em ?_
  omega
theorem g3 (x : Nat) (h : x ≤ 7378697629483820646) (q2 : QB 8 x) : bits .and .i64 (wrap64 (f6 (f5 (f4 (f3 (x : Int)))))) 127 = ((tot 16 16 x : Nat) : Int) := by
  have t3 : tot 256 8 (SC 8 x) = tot 16 16 x := totC 8 x
  rw [f3_eq x h q2, g4 (SC 8 x) (ec 8 x q2), t3]
theorem sb_le (x : Nat) : SB 16 x ≤ 7378697629483820646 := by
  have s2 := stB 16 x
  rw [show mkB 16 = 3689348814741910323 by decide +kernel] at s2
  have b3 : x / 4 &&& 3689348814741910323 ≤ 3689348814741910323 := Nat.and_le_right
  have b4 : x &&& 3689348814741910323 ≤ 3689348814741910323 := Nat.and_le_right
  omega
theorem sa_lt (x : Nat) : SA 32 x < 18446744073709551616 := by
  have s2 := stA 32 x
  rw [show mkA 32 = 6148914691236517205 by decide +kernel] at s2
  have b3 : x / 2 &&& 6148914691236517205 ≤ 6148914691236517205 := Nat.and_le_right
  have b4 : x &&& 6148914691236517205 ≤ 6148914691236517205 := Nat.and_le_right
  omega
theorem g2 (x : Nat) (h : x < 18446744073709551616) (q1 : QA 16 x) : bits .and .i64 (wrap64 (f6 (f5 (f4 (f3 (f2 (x : Int))))))) 127 = ((tot 4 32 x : Nat) : Int) := by
  have t2 : tot 16 16 (SB 16 x) = tot 4 32 x := totB 16 x
  rw [f2_eq x h, g3 (SB 16 x) (sb_le x) (qb 8 x q1), t2]
theorem oc_eq (n : Nat) (h : n < 18446744073709551616) : bits .and .i64 (wrap64 (f6 (f5 (f4 (f3 (f2 (f1 (n : Int)))))))) 127 = ((pcF 64 n : Nat) : Int) := by
  have t1 : tot 4 32 (SA 32 n) = tot 2 64 n := totA 32 n
  rw [f1_eq n h, g2 (SA 32 n) (sa_lt n) (qa 16 n), t1, tot_two]
end Go.Proofs.YtmkpaifcgjldbaaDoor
