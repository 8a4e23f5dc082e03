/-
  PLAIN: how many noughts stand above and below in a number of 32 bits, and how many ones it has; and the ways by which Go's library comes to it. No condition; no program in sight.
-/
import Derived.Test.YtbpgcndanlmdjaaDoorNum
import Derived.Laws.MathBits
namespace Go.Proofs.YtbpgcndanlmdjaaDoor
open Go.RowKit
/-- noughts from below, up to n. -/
def tzF : Nat → Nat → Nat
  | 0, _ => 0
  | n + 1, a => if a % 2 = 1 then 0 else 1 + tzF n (a / 2)
/-- ones among the lowest n. -/
def pcF : Nat → Nat → Nat
  | 0, _ => 0
  | n + 1, a => a % 2 + pcF n (a / 2)
def uval : Nat → Int → Int
  | 0, a => fl (decide (a = 0))
  | 1, a => ((32 - bitLen a.toNat : Nat) : Int)
  | 2, a => ((tzF 32 a.toNat : Nat) : Int)
  | _, a => ((pcF 32 a.toNat : Nat) : Int)
theorem tzF_le (n : Nat) : ∀ a, tzF n a ≤ n := by
  induction n with
  | zero => intro a; simp [tzF]
  | succ n ih =>
    intro a
    unfold tzF
    split
    · omega
    · have := ih (a / 2); omega
theorem pcF_le (n : Nat) : ∀ a, pcF n a ≤ n := by
  induction n with
  | zero => intro a; simp [pcF]
  | succ n ih =>
    intro a
    unfold pcF
    have := ih (a / 2); omega
theorem bitLen_le {a : Nat} (h : a < 4294967296) : bitLen a ≤ 32 := by
  have hs := (bitLen_spec a).2
  rcases Nat.lt_or_ge 32 (bitLen a) with hlt | hge
  · exfalso
    have hne : a ≠ 0 := by
      intro e
      subst e
      simp [bitLen] at hlt
    have h1 := hs hne
    have h2 : 2 ^ 32 ≤ 2 ^ (bitLen a - 1) := Nat.pow_le_pow_right (by decide) (by omega)
    have h3 : (2 : Nat) ^ 32 = 4294967296 := by decide
    omega
  · exact hge
theorem uval_bd (k : Nat) (a : Int) : 0 ≤ uval k a ∧ uval k a ≤ 32 := by
  unfold uval
  split
  · cases decide (a = 0) <;> decide
  · omega
  · have := tzF_le 32 a.toNat; omega
  · have := pcF_le 32 a.toNat; omega
/-! ones, a byte at a time -/
theorem pcF_add (m : Nat) : ∀ n a, pcF (m + n) a = pcF m a + pcF n (a / 2 ^ m) := by
  induction m with
  | zero => intro n a; simp [pcF]
  | succ m ih =>
    intro n a
    rw [show m + 1 + n = (m + n) + 1 by omega, show pcF ((m + n) + 1) a = a % 2 + pcF (m + n) (a / 2) from rfl, show pcF (m + 1) a = a % 2 + pcF m (a / 2) from rfl]
    rw [ih, Nat.div_div_eq_div_mul, show 2 * 2 ^ m = 2 ^ (m + 1) by rw [Nat.pow_succ]; omega]
    omega
theorem pcF_mod (n : Nat) : ∀ a, pcF n (a % 2 ^ n) = pcF n a := by
  induction n with
  | zero => intro a; simp [pcF]
  | succ n ih =>
    intro a
    unfold pcF
    have e1 : a % 2 ^ (n + 1) % 2 = a % 2 := by rw [Nat.pow_succ, Nat.mul_comm]; exact Nat.mod_mul_right_mod ..
    have e2 : a % 2 ^ (n + 1) / 2 = a / 2 % 2 ^ n := by rw [Nat.pow_succ, Nat.mul_comm, Nat.mod_mul_right_div_self]
    rw [e1, e2, ih]
theorem pop_get (i : Nat) (h : i < 256) : (#[0, 1, 1, 2, 1, 2, 2, 3, 1, 2, 2, 3, 2, 3, 3, 4, 1, 2, 2, 3, 2, 3, 3, 4, 2, 3, 3, 4, 3, 4, 4, 5, 1, 2, 2, 3, 2, 3, 3, 4, 2, 3, 3, 4, 3, 4, 4, 5, 2, 3, 3, 4, 3, 4, 4, 5, 3, 4, 4, 5, 4, 5, 5, 6, 1, 2, 2, 3, 2, 3, 3, 4, 2, 3, 3, 4, 3, 4, 4, 5, 2, 3, 3, 4, 3, 4, 4, 5, 3, 4, 4, 5, 4, 5, 5, 6, 2, 3, 3, 4, 3, 4, 4, 5, 3, 4, 4, 5, 4, 5, 5, 6, 3, 4, 4, 5, 4, 5, 5, 6, 4, 5, 5, 6, 5, 6, 6, 7, 1, 2, 2, 3, 2, 3, 3, 4, 2, 3, 3, 4, 3, 4, 4, 5, 2, 3, 3, 4, 3, 4, 4, 5, 3, 4, 4, 5, 4, 5, 5, 6, 2, 3, 3, 4, 3, 4, 4, 5, 3, 4, 4, 5, 4, 5, 5, 6, 3, 4, 4, 5, 4, 5, 5, 6, 4, 5, 5, 6, 5, 6, 6, 7, 2, 3, 3, 4, 3, 4, 4, 5, 3, 4, 4, 5, 4, 5, 5, 6, 3, 4, 4, 5, 4, 5, 5, 6, 4, 5, 5, 6, 5, 6, 6, 7, 3, 4, 4, 5, 4, 5, 5, 6, 4, 5, 5, 6, 5, 6, 6, 7, 4, 5, 5, 6, 5, 6, 6, 7, 5, 6, 6, 7, 6, 7, 7, 8] : Array UInt8)[i]! = UInt8.ofNat (pcF 8 i) := by
  revert i
  decide +kernel
theorem tzF_zero (n : Nat) : tzF n 0 = n := by
  induction n with
  | zero => rfl
  | succ n ih => unfold tzF; simp [ih]; omega
/-- a number that is not 0 is an odd one times the power of 2 that its lowest noughts tell. -/
theorem tzF_odd (n : Nat) : ∀ a, a ≠ 0 → a < 2 ^ n → ∃ m, a = 2 ^ tzF n a * (2 * m + 1) ∧ tzF n a < n := by
  induction n with
  | zero => intro a h0 h1; omega
  | succ n ih =>
    intro a h0 h1
    unfold tzF
    split
    · exact ⟨a / 2, by simp; omega, by omega⟩
    · obtain ⟨m, hm, ht⟩ := ih (a / 2) (by omega) (by rw [Nat.pow_succ] at h1; omega)
      refine ⟨m, ?_, by omega⟩
      rw [Nat.add_comm 1, Nat.pow_succ, Nat.mul_assoc, Nat.mul_comm 2, ← Nat.mul_assoc, ← hm]
      omega
theorem and_compl (n q : Nat) (h : q < 2 ^ n) : q &&& (2 ^ n - (q + 1)) = 0 := by
  apply Nat.eq_of_testBit_eq
  intro i
  rw [Nat.testBit_and, Nat.testBit_two_pow_sub_succ h, Nat.zero_testBit]
  cases q.testBit i <;> simp
theorem and_neg {a : Nat} (h0 : a ≠ 0) (h1 : a < 4294967296) : a &&& (4294967296 - a) = 2 ^ tzF 32 a := by
  obtain ⟨m, hm, ht⟩ := tzF_odd 32 a h0 h1
  obtain ⟨t, hT⟩ : ∃ t, t = tzF 32 a := ⟨_, rfl⟩
  rw [← hT] at hm ht ⊢
  have hp : 2 ^ t * 2 ^ (32 - t) = (4294967296 : Nat) := by rw [← Nat.pow_add, show t + (32 - t) = 32 by omega]
  have hp2 : 2 * 2 ^ (32 - t - 1) = 2 ^ (32 - t) := by
    conv => rhs; rw [show 32 - t = (32 - t - 1) + 1 by omega, Nat.pow_succ']
  have hpos : 0 < 2 ^ t := Nat.pow_pos (by decide)
  have hlt : 2 * m + 1 < 2 ^ (32 - t) := by
    rw [hm, ← hp] at h1
    exact Nat.lt_of_mul_lt_mul_left h1
  have hq : m < 2 ^ (32 - t - 1) := by omega
  have e : 4294967296 - a = 2 ^ t * (2 * (2 ^ (32 - t - 1) - (m + 1)) + 1) := by
    rw [hm, ← hp, ← Nat.mul_sub]
    congr 1
    omega
  rw [e]
  conv => lhs; lhs; rw [hm]
  rw [Nat.mul_comm (2 ^ t), Nat.mul_comm (2 ^ t), ← Nat.shiftLeft_eq, ← Nat.shiftLeft_eq, ← Nat.shiftLeft_and_distrib, Nat.shiftLeft_eq]
  have e2 : (2 * m + 1) &&& (2 * (2 ^ (32 - t - 1) - (m + 1)) + 1) = 1 := by
    apply Nat.eq_of_testBit_eq
    intro i
    cases i with
    | zero => simp [Nat.testBit_zero]
    | succ i =>
      have hc := congrArg (fun x => x.testBit i) (and_compl _ m hq)
      simp only [Nat.testBit_and, Nat.zero_testBit] at hc
      rw [Nat.testBit_and, Nat.testBit_succ, Nat.testBit_succ, Nat.testBit_succ, show (2 * m + 1) / 2 = m by omega, show (2 * (2 ^ (32 - t - 1) - (m + 1)) + 1) / 2 = 2 ^ (32 - t - 1) - (m + 1) by omega, hc]
      simp
  rw [e2, Nat.one_mul]
def deTab : List Nat := [0, 1, 28, 2, 29, 14, 24, 3, 30, 22, 20, 15, 25, 17, 4, 8, 31, 27, 13, 23, 21, 19, 16, 7, 26, 12, 18, 6, 11, 5, 10, 9]
theorem de_get (t : Nat) (h : t < 32) : deTab[2 ^ t * 125613361 % 4294967296 / 2 ^ 27]? = some t := by
  revert t
  decide +kernel

end Go.Proofs.YtbpgcndanlmdjaaDoor
