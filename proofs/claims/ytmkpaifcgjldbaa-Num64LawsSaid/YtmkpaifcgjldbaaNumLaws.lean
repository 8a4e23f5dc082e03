/-
  PLAIN LAWS ON THE OPERATIONS OF 64 BITS: what goes both ways, what undoes what. No condition; no program in sight.
-/
import Derived.Test.YtmkpaifcgjldbaaNum
namespace Go.Proofs.Ytmkpaifcgjldbaa
open Go.RowKit
def bo (j : Nat) : Int := [106, 108, 113, 114, 115].getD j 0
theorem bo_bd (j : Nat) : 0 ≤ bo j ∧ bo j ≤ 200 := by
  unfold bo
  match j with
  | 0 => decide
  | 1 => decide
  | 2 => decide
  | 3 => decide
  | 4 => decide
  | j + 5 => simp
theorem rv_of {op : Int} {k : Nat} (hp : place op = some k) {a b : Int} (ht : trap k a b = 0) : rv op a b = val k a b := by
  unfold rv
  rw [hp]
  simp [ht]
theorem rt_of {op : Int} {k : Nat} (hp : place op = some k) (a b : Int) : rt op a b = trap k a b := by
  unfold rt
  rw [hp]
theorem trap_no {k : Nat} (h : ¬ (13 ≤ k ∧ k ≤ 16)) (a b : Int) : trap k a b = 0 := by
  unfold trap
  rw [if_neg h]
theorem lit {op : Int} (k : Nat) (hp : place op = some k) (h : ¬ (13 ≤ k ∧ k ≤ 16)) (a b : Int) : re op = 0 ∧ rt op a b = 0 ∧ rv op a b = val k a b :=
  ⟨by unfold re; rw [hp], by rw [rt_of hp, trap_no h], rv_of hp (trap_no h a b)⟩
theorem both_ways {j : Nat} (hj : j < 5) (a b : Int) : re (bo j + 18) = 0 ∧ (∀ a b, rt (bo j + 18) a b = 0) ∧ rv (bo j + 18) b a = rv (bo j + 18) a b := by
  have hh : j = 0 ∨ j = 1 ∨ j = 2 ∨ j = 3 ∨ j = 4 := by omega
  rcases hh with rfl | rfl | rfl | rfl | rfl

  · have hp : place (bo 0 + 18) = some 10 := by decide
    refine ⟨(lit 10 hp (by decide) a b).1, fun a b => (lit 10 hp (by decide) a b).2.1, ?_⟩
    rw [(lit 10 hp (by decide) a b).2.2, (lit 10 hp (by decide) b a).2.2]
    show (b + a) % _ = (a + b) % _; rw [Int.add_comm]
  · have hp : place (bo 1 + 18) = some 12 := by decide
    refine ⟨(lit 12 hp (by decide) a b).1, fun a b => (lit 12 hp (by decide) a b).2.1, ?_⟩
    rw [(lit 12 hp (by decide) a b).2.2, (lit 12 hp (by decide) b a).2.2]
    show (b * a) % _ = (a * b) % _; rw [Int.mul_comm]
  · have hp : place (bo 2 + 18) = some 17 := by decide
    refine ⟨(lit 17 hp (by decide) a b).1, fun a b => (lit 17 hp (by decide) a b).2.1, ?_⟩
    rw [(lit 17 hp (by decide) a b).2.2, (lit 17 hp (by decide) b a).2.2]
    show ((_ &&& _ : Nat) : Int) = _; rw [Nat.and_comm]; rfl
  · have hp : place (bo 3 + 18) = some 18 := by decide
    refine ⟨(lit 18 hp (by decide) a b).1, fun a b => (lit 18 hp (by decide) a b).2.1, ?_⟩
    rw [(lit 18 hp (by decide) a b).2.2, (lit 18 hp (by decide) b a).2.2]
    show ((_ ||| _ : Nat) : Int) = _; rw [Nat.or_comm]; rfl
  · have hp : place (bo 4 + 18) = some 19 := by decide
    refine ⟨(lit 19 hp (by decide) a b).1, fun a b => (lit 19 hp (by decide) a b).2.1, ?_⟩
    rw [(lit 19 hp (by decide) a b).2.2, (lit 19 hp (by decide) b a).2.2]
    show ((_ ^^^ _ : Nat) : Int) = _; rw [Nat.xor_comm]; rfl

theorem sub_add {a b : Int} (h0 : 0 ≤ a) (h1 : a < 18446744073709551616) : val 10 (val 11 a b) b = a := by
  show ((a - b) % 18446744073709551616 + b) % 18446744073709551616 = a
  omega
theorem pow_split {s : Nat} (h : s ≤ 64) : 2 ^ s * 2 ^ (64 - s) = (18446744073709551616 : Nat) := by
  rw [← Nat.pow_add, show s + (64 - s) = 64 by omega]
/-- turning as sums. -/
theorem rotl_nat {a s : Nat} (ha : a < 18446744073709551616) (hs : s ≤ 64) : rotl (a : Int) s = ((a % 2 ^ (64 - s) * 2 ^ s + a / 2 ^ (64 - s) : Nat) : Int) := by
  have hp := pow_split hs
  have h2 : 0 < 2 ^ s := Nat.pow_pos (by decide)
  have h3 : 0 < 2 ^ (64 - s) := Nat.pow_pos (by decide)
  have e1 : ((a : Int) * 2 ^ s % 18446744073709551616).toNat = a % 2 ^ (64 - s) * 2 ^ s := by
    have : ((a : Int) * 2 ^ s % 18446744073709551616) = ((a * 2 ^ s % 18446744073709551616 : Nat) : Int) := by rw [Int.natCast_emod, Int.natCast_mul, Int.natCast_pow]; rfl
    rw [this, Int.toNat_natCast, ← hp, Nat.mul_comm (2 ^ s), Nat.mul_mod_mul_right]
  have e2 : ((a : Int) / 2 ^ (64 - s)).toNat = a / 2 ^ (64 - s) := by
    have : ((a : Int) / 2 ^ (64 - s)) = ((a / 2 ^ (64 - s) : Nat) : Int) := by rw [Int.natCast_ediv, Int.natCast_pow]; rfl
    rw [this, Int.toNat_natCast]
  have hq : a / 2 ^ (64 - s) < 2 ^ s := by
    rw [Nat.div_lt_iff_lt_mul h3, hp]
    exact ha
  unfold rotl
  rw [e1, e2, nat_join s _ _ (Nat.mul_mod_left _ _) hq]
theorem rot_back_nat {a s : Nat} (ha : a < 18446744073709551616) (hs : s ≤ 64) : rotl (rotl (a : Int) s) (64 - s) = (a : Int) := by
  have hp := pow_split hs
  have h2 : 0 < 2 ^ s := Nat.pow_pos (by decide)
  have h3 : 0 < 2 ^ (64 - s) := Nat.pow_pos (by decide)
  have hq : a / 2 ^ (64 - s) < 2 ^ s := by
    rw [Nat.div_lt_iff_lt_mul h3, hp]
    exact ha
  have hr : a % 2 ^ (64 - s) < 2 ^ (64 - s) := Nat.mod_lt _ h3
  have hb : a % 2 ^ (64 - s) * 2 ^ s + a / 2 ^ (64 - s) < 18446744073709551616 := by
    have : a % 2 ^ (64 - s) * 2 ^ s + a / 2 ^ (64 - s) < (a % 2 ^ (64 - s) + 1) * 2 ^ s := by rw [Nat.add_mul]; omega
    have t : (a % 2 ^ (64 - s) + 1) * 2 ^ s ≤ 2 ^ (64 - s) * 2 ^ s := Nat.mul_le_mul_right _ hr
    rw [Nat.mul_comm (2 ^ (64 - s)), hp] at t
    omega
  rw [rotl_nat ha hs, rotl_nat hb (by omega), show 64 - (64 - s) = s by omega]
  have m1 : (a % 2 ^ (64 - s) * 2 ^ s + a / 2 ^ (64 - s)) % 2 ^ s = a / 2 ^ (64 - s) := by
    rw [Nat.add_comm, Nat.add_mul_mod_self_right, Nat.mod_eq_of_lt hq]
  have m2 : (a % 2 ^ (64 - s) * 2 ^ s + a / 2 ^ (64 - s)) / 2 ^ s = a % 2 ^ (64 - s) := by
    rw [Nat.add_comm, Nat.add_mul_div_right _ _ h2, Nat.div_eq_of_lt hq, Nat.zero_add]
  rw [m1, m2, Nat.div_add_mod' a]
theorem rot_back {a b : Int} (h0 : 0 ≤ a) (h1 : a < 18446744073709551616) : val 24 (val 23 a b) b = a := by
  show rotl (rotl a (b % 64).toNat) (-b % 64).toNat = a
  obtain ⟨n, rfl⟩ := Int.eq_ofNat_of_zero_le h0
  by_cases hz : b % 64 = 0
  · rw [show (-b % 64).toNat = 0 by omega, show (b % 64).toNat = 0 by omega, rotl_0 h0 h1, rotl_0 h0 h1]
  · rw [show (-b % 64).toNat = 64 - (b % 64).toNat by omega]
    exact rot_back_nat (by omega) (by omega)
theorem shl_more (a b : Int) : val 20 a ((b + 64) % 18446744073709551616) = val 20 a b := by
  show a * 2 ^ (((b + 64) % 18446744073709551616) % 64).toNat % 18446744073709551616 = a * 2 ^ (b % 64).toNat % 18446744073709551616
  rw [show ((b + 64) % 18446744073709551616) % 64 = b % 64 by omega]
/-! division -/
theorem trap_two {k : Nat} (hk : 13 ≤ k ∧ k ≤ 16) (a b : Int) : (trap k a b == 2) = (b == 0) := by
  unfold trap
  rw [if_pos hk]
  by_cases hb : b = 0
  · simp [hb]
  · rw [if_neg hb]
    have : (b == 0) = false := by simpa using hb
    rw [this]
    split <;> rfl
theorem quot_rest_s (x y a b : Int) (ha : x % 18446744073709551616 = a % 18446744073709551616) (hb : y % 18446744073709551616 = b % 18446744073709551616) : (x.tdiv y % 18446744073709551616 * b + x.tmod y % 18446744073709551616) % 18446744073709551616 = a % 18446744073709551616 := by
  have e : y * x.tdiv y + x.tmod y = x := Int.mul_tdiv_add_tmod x y
  rw [Int.add_emod, Int.mul_emod, Int.emod_emod, Int.emod_emod, ← hb, ← Int.mul_emod, ← Int.add_emod, Int.mul_comm, e, ha]
theorem quot_rest {k : Nat} (hk : k = 13 ∨ k = 14) {a b : Int} (h0 : 0 ≤ a) (h1 : a < 18446744073709551616) : (val k a b * b + val (k + 2) a b) % 18446744073709551616 = a := by
  rcases hk with rfl | rfl
  · have := quot_rest_s (sgn a) (sgn b) a b (sgn_mod a) (sgn_mod b)
    show ((sgn a).tdiv (sgn b) % 18446744073709551616 * b + (sgn a).tmod (sgn b) % 18446744073709551616) % 18446744073709551616 = a
    rw [this]
    omega
  · show (a / b * b + a % b) % 18446744073709551616 = a
    rw [Int.mul_comm, Int.mul_ediv_add_emod]
    omega
/-! less, equal, greater -/
theorem fl_three (p q r : Prop) [Decidable p] [Decidable q] [Decidable r] (h : (p ∧ ¬ q ∧ ¬ r) ∨ (¬ p ∧ q ∧ ¬ r) ∨ (¬ p ∧ ¬ q ∧ r)) : fl (decide p) + fl (decide q) + fl (decide r) = 1 := by
  rcases h with ⟨h1, h2, h3⟩ | ⟨h1, h2, h3⟩ | ⟨h1, h2, h3⟩ <;> simp [h1, h2, h3, fl]
theorem fl_two (p q r : Prop) [Decidable p] [Decidable q] [Decidable r] (h : (p ∧ q ∧ ¬ r) ∨ (p ∧ ¬ q ∧ r) ∨ (¬ p ∧ ¬ q ∧ ¬ r)) : fl (decide p) = fl (decide q) + fl (decide r) := by
  rcases h with ⟨h1, h2, h3⟩ | ⟨h1, h2, h3⟩ | ⟨h1, h2, h3⟩ <;> simp [h1, h2, h3, fl]
theorem sgn_inj {a b : Int} (a0 : 0 ≤ a) (a1 : a < 18446744073709551616) (b0 : 0 ≤ b) (b1 : b < 18446744073709551616) (h : sgn a = sgn b) : a = b := by
  rw [sgn_eq, sgn_eq] at h
  omega
theorem three_s {a b : Int} (a0 : 0 ≤ a) (a1 : a < 18446744073709551616) (b0 : 0 ≤ b) (b1 : b < 18446744073709551616) : val 2 a b + val 4 a b + val 0 a b = 1 ∧ val 6 a b = val 2 a b + val 0 a b ∧ val 8 a b = val 4 a b + val 0 a b := by
  have h1 : sgn a = sgn b → a = b := sgn_inj a0 a1 b0 b1
  have h2 : a = b → sgn a = sgn b := fun h => by rw [h]
  refine ⟨fl_three _ _ _ ?_, fl_two _ _ _ ?_, fl_two _ _ _ ?_⟩ <;> omega
theorem three_u (a b : Int) : val 3 a b + val 5 a b + val 0 a b = 1 ∧ val 7 a b = val 3 a b + val 0 a b ∧ val 9 a b = val 5 a b + val 0 a b := by
  refine ⟨fl_three _ _ _ ?_, fl_two _ _ _ ?_, fl_two _ _ _ ?_⟩ <;> omega
theorem place_div {j : Nat} (hj : j < 2) : place (127 + (j : Int)) = some (13 + j) ∧ place (129 + (j : Int)) = some (15 + j) := by
  have hh : j = 0 ∨ j = 1 := by omega
  rcases hh with rfl | rfl <;> decide
theorem place_test {j : Nat} (hj : j < 2) : place (83 + (j : Int)) = some (2 + j) ∧ place (85 + (j : Int)) = some (4 + j) ∧ place (87 + (j : Int)) = some (6 + j) ∧ place (89 + (j : Int)) = some (8 + j) := by
  have hh : j = 0 ∨ j = 1 := by omega
  rcases hh with rfl | rfl <;> decide
theorem re_of {op : Int} {k : Nat} (hp : place op = some k) : re op = 0 := by unfold re; rw [hp]
/-- the three ways of dividing. -/
theorem div_ways {j : Nat} (hj : j < 2) {a b : Int} (a0 : 0 ≤ a) (a1 : a < 18446744073709551616) :
    (rt (127 + (j : Int)) a b = 0 ∧ rt (129 + (j : Int)) a b = 0 ∧ (b == 0) = false ∧ (rv (127 + (j : Int)) a b * b + rv (129 + (j : Int)) a b) % 18446744073709551616 = a) ∨
    (rt (127 + (j : Int)) a b = 2 ∧ rt (129 + (j : Int)) a b = 2 ∧ (b == 0) = true) ∨
    (rt (127 + (j : Int)) a b = 3 ∧ rt (129 + (j : Int)) a b = 0 ∧ (b == 0) = false) := by
  obtain ⟨p1, p2⟩ := place_div hj
  rw [rt_of p1, rt_of p2]
  by_cases hb : b = 0
  · exact .inr (.inl ⟨by unfold trap; rw [if_pos (by omega), if_pos hb], by unfold trap; rw [if_pos (by omega), if_pos hb], by simpa using hb⟩)
  · have e2 : trap (15 + j) a b = 0 := by unfold trap; rw [if_pos (by omega), if_neg hb, if_neg (by omega)]
    have ez : (b == 0) = false := by simpa using hb
    by_cases ho : 13 + j = 13 ∧ a = 9223372036854775808 ∧ b = 18446744073709551615
    · exact .inr (.inr ⟨by unfold trap; rw [if_pos (by omega), if_neg hb, if_pos ho], e2, ez⟩)
    · have e1 : trap (13 + j) a b = 0 := by unfold trap; rw [if_pos (by omega), if_neg hb, if_neg ho]
      refine .inl ⟨e1, e2, ez, ?_⟩
      rw [rv_of p1 e1, rv_of p2 e2, show 15 + j = 13 + j + 2 by omega]
      exact quot_rest (by omega) a0 a1
theorem fl_01 (c : Bool) : 0 ≤ fl c ∧ fl c ≤ 1 := by cases c <;> decide
/-- the comparisons, with a sign (j = 0) and without (j = 1). -/
theorem test_ways {j : Nat} (hj : j < 2) {a b : Int} (a0 : 0 ≤ a) (a1 : a < 18446744073709551616) (b0 : 0 ≤ b) (b1 : b < 18446744073709551616) :
    (val (2 + j) a b + val (4 + j) a b + val 0 a b = 1 ∧ val (6 + j) a b = val (2 + j) a b + val 0 a b ∧ val (8 + j) a b = val (4 + j) a b + val 0 a b) ∧
    (0 ≤ val (2 + j) a b ∧ val (2 + j) a b ≤ 1) ∧ (0 ≤ val (4 + j) a b ∧ val (4 + j) a b ≤ 1) ∧ (0 ≤ val 0 a b ∧ val 0 a b ≤ 1) := by
  have hh : j = 0 ∨ j = 1 := by omega
  rcases hh with rfl | rfl
  · exact ⟨three_s a0 a1 b0 b1, fl_01 _, fl_01 _, fl_01 _⟩
  · exact ⟨three_u a b, fl_01 _, fl_01 _, fl_01 _⟩
end Go.Proofs.Ytmkpaifcgjldbaa

