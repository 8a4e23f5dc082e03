/-
  WHAT THE OPERATIONS OF 32 BITS ANSWER, said of whole numbers from 0 to 4294967295; plain laws on them. No condition; no program in sight.
-/
import Derived.WalkKit
import Derived.Laws.BitsAllLaws
import Derived.Laws.BitsLemmas
namespace Go.Proofs.YtbpgcndanlmdjaaDoor
open Go.RowKit

def sgn (a : Int) : Int := wrap32 a
def fl (c : Bool) : Int := if c then 1 else 0
/-- turned left by s. -/
def rotl (a : Int) (s : Nat) : Int := (((a * 2 ^ s % 4294967296).toNat ||| (a / 2 ^ (32 - s)).toNat : Nat) : Int)
/-- operation k of two numbers: 0 to 9 the comparisons, 10 to 24 the others, in the document's order. -/
def val : Nat → Int → Int → Int
  | 0, a, b => fl (decide (a = b))
  | 1, a, b => fl (decide (a ≠ b))
  | 2, a, b => fl (decide (sgn a < sgn b))
  | 3, a, b => fl (decide (a < b))
  | 4, a, b => fl (decide (sgn b < sgn a))
  | 5, a, b => fl (decide (b < a))
  | 6, a, b => fl (decide (sgn a ≤ sgn b))
  | 7, a, b => fl (decide (a ≤ b))
  | 8, a, b => fl (decide (sgn b ≤ sgn a))
  | 9, a, b => fl (decide (b ≤ a))
  | 10, a, b => (a + b) % 4294967296
  | 11, a, b => (a - b) % 4294967296
  | 12, a, b => (a * b) % 4294967296
  | 13, a, b => (sgn a).tdiv (sgn b) % 4294967296
  | 14, a, b => a / b
  | 15, a, b => (sgn a).tmod (sgn b) % 4294967296
  | 16, a, b => a % b
  | 17, a, b => ((a.toNat &&& b.toNat : Nat) : Int)
  | 18, a, b => ((a.toNat ||| b.toNat : Nat) : Int)
  | 19, a, b => ((a.toNat ^^^ b.toNat : Nat) : Int)
  | 20, a, b => a * 2 ^ (b % 32).toNat % 4294967296
  | 21, a, b => sgn a / 2 ^ (b % 32).toNat % 4294967296
  | 22, a, b => a / 2 ^ (b % 32).toNat
  | 23, a, b => rotl a (b % 32).toNat
  | _, a, b => rotl a (-b % 32).toNat

theorem fl_t {c : Bool} (h : c = true) : fl c = 1 := by rw [h]; rfl
theorem fl_f {c : Bool} (h : c = false) : fl c = 0 := by rw [h]; rfl
theorem fl_bd (c : Bool) : 0 ≤ fl c ∧ fl c < 4294967296 := by cases c <;> decide
theorem sgn_eq (a : Int) : sgn a = (a + 2147483648) % 4294967296 - 2147483648 := by unfold sgn wrap32; rfl
theorem sgn_ne {b : Int} (h0 : 0 ≤ b) (h1 : b < 4294967296) (h : ¬ b = 0) : ¬ sgn b = 0 := by rw [sgn_eq]; omega
theorem sgn_mod (a : Int) : sgn a % 4294967296 = a % 4294967296 := by rw [sgn_eq]; omega
theorem sgn_bd (a : Int) : -2147483648 ≤ sgn a ∧ sgn a < 2147483648 := by rw [sgn_eq]; omega
theorem mod_add_r (x y : Int) : (x + y % 4294967296) % 4294967296 = (x + y) % 4294967296 := Int.add_emod_emod ..
theorem mul_mod_l (x y : Int) : (x % 4294967296 * y) % 4294967296 = (x * y) % 4294967296 := by rw [Int.mul_emod, Int.emod_emod, ← Int.mul_emod]

/-! what shifts and bits come to -/
theorem and_nat_lt {x y : Nat} (hx : x < 4294967296) : x &&& y < 4294967296 := Nat.lt_of_le_of_lt Nat.and_le_left hx
theorem or_nat_lt {x y : Nat} (hx : x < 4294967296) (hy : y < 4294967296) : x ||| y < 4294967296 := Nat.or_lt_two_pow (n := 32) hx hy
theorem xor_nat_lt {x y : Nat} (hx : x < 4294967296) (hy : y < 4294967296) : x ^^^ y < 4294967296 := Nat.xor_lt_two_pow (n := 32) hx hy
theorem pow_pos_int (s : Nat) : (0 : Int) < 2 ^ s := Int.pow_pos (by decide)
theorem div_pow_bd {a : Int} (s : Nat) (h0 : 0 ≤ a) (h1 : a < 4294967296) : 0 ≤ a / 2 ^ s ∧ a / 2 ^ s < 4294967296 := by
  have hp := pow_pos_int s
  refine ⟨Int.ediv_nonneg h0 (Int.le_of_lt hp), ?_⟩
  exact Int.lt_of_le_of_lt (Int.ediv_le_self _ h0) h1
theorem rotl_bd {a : Int} (s : Nat) (h0 : 0 ≤ a) (h1 : a < 4294967296) : 0 ≤ rotl a s ∧ rotl a s < 4294967296 := by
  have hd := div_pow_bd (32 - s) h0 h1
  have := or_nat_lt (x := (a * 2 ^ s % 4294967296).toNat) (y := (a / 2 ^ (32 - s)).toNat) (by omega) (by omega)
  unfold rotl
  omega
theorem rotl_0 {a : Int} (h0 : 0 ≤ a) (h1 : a < 4294967296) : rotl a 0 = a := by
  have e1 : a * 2 ^ 0 % 4294967296 = a := by simp; omega
  have e2 : a / 2 ^ (32 - 0) = 0 := by
    show a / 4294967296 = 0
    omega
  unfold rotl
  rw [e1, e2]
  simp
  omega

/-- each answer is a number of 32 bits. -/
theorem val_bd (k : Nat) {a b : Int} (ha : 0 ≤ a) (ha' : a < 4294967296) (hb : 0 ≤ b) (hb' : b < 4294967296) (hz : k = 14 ∨ k = 16 → b ≠ 0) : 0 ≤ val k a b ∧ val k a b < 4294967296 := by
  unfold val
  split
  all_goals first | exact fl_bd _ | exact rotl_bd _ ha ha' | exact div_pow_bd _ ha ha' | omega | skip
  · have hb1 : 1 ≤ b := by have := hz (by simp); omega
    exact ⟨Int.ediv_nonneg ha (by omega), Int.lt_of_le_of_lt (Int.ediv_le_self _ ha) ha'⟩
  · have hb1 : 1 ≤ b := by have := hz (by simp); omega
    exact ⟨Int.emod_nonneg _ (by omega), by have := Int.emod_lt_of_pos a (show 0 < b by omega); omega⟩
  · have := and_nat_lt (x := a.toNat) (y := b.toNat) (by omega); omega
  · have := or_nat_lt (x := a.toNat) (y := b.toNat) (by omega) (by omega); omega
  · have := xor_nat_lt (x := a.toNat) (y := b.toNat) (by omega) (by omega); omega

/-! THE TWO TEXTS' WAYS TO EACH ANSWER: what the walks leave -/
theorem v13 {a b : Int} (h : b = 4294967295) : -a % 4294967296 = val 13 a b := by
  subst h
  show -a % 4294967296 = (sgn a).tdiv (sgn 4294967295) % 4294967296
  have e : sgn 4294967295 = -1 := by rw [sgn_eq]; omega
  rw [e, Int.tdiv_neg, Int.tdiv_one, sgn_eq]
  omega
theorem v13' (a b : Int) : wrap32 ((sgn a).tdiv (sgn b)) % 4294967296 = val 13 a b := sgn_mod _
theorem v14 {a b : Int} (h0 : 0 ≤ a) (h1 : a < 4294967296) (hb : 1 ≤ b) : a.tdiv b % 4294967296 = val 14 a b := by
  have e : a.tdiv b = a / b := Int.tdiv_eq_ediv_of_nonneg h0
  have d0 : 0 ≤ a / b := Int.ediv_nonneg h0 (by omega)
  have d1 : a / b < 4294967296 := Int.lt_of_le_of_lt (Int.ediv_le_self _ h0) h1
  show _ = a / b
  rw [e]
  omega
theorem v15 {a b : Int} (h : b = 4294967295) : 0 = val 15 a b := by
  subst h
  show 0 = (sgn a).tmod (sgn 4294967295) % 4294967296
  have e : sgn 4294967295 = -1 := by rw [sgn_eq]; omega
  rw [e, Int.tmod_neg, Int.tmod_one]
  rfl
theorem bor {x y : Int} (h0 : 0 ≤ x) (h1 : x < 4294967296) (h2 : 0 ≤ y) (h3 : y < 4294967296) : bits .or .u32 x y = ((x.toNat ||| y.toNat : Nat) : Int) := u32_or x y h0 h1 h2 h3
/-- the count in RotateLeft. -/
theorem count_of (k : Int) : bits .and .u64 (IntKind.u64.wrap k) 31 = k % 32 := by
  have e : IntKind.u64.wrap k = k % 18446744073709551616 := by simp [IntKind.wrap, IntKind.bits, IntKind.signed]
  rw [e, u64_and _ _ (by omega) (by omega) (by omega) (by omega)]
  show (((k % 18446744073709551616).toNat &&& 31 : Nat) : Int) = _
  rw [nat_mask5]
  omega
theorem v23 {x : Int} (s : Int) (h0 : 0 ≤ x) (h1 : x < 4294967296) (hs : 0 ≤ s) (hs' : s < 32) : bits .or .u32 (x * 2 ^ s.toNat % 4294967296) (x / 2 ^ (32 - s).toNat) = rotl x s.toNat := by
  have e : (32 - s).toNat = 32 - s.toNat := by omega
  have hd := div_pow_bd (32 - s.toNat) h0 h1
  rw [e, bor (by omega) (by omega) hd.1 hd.2]
  rfl

/-! what an operation's number tells, and why two numbers trap -/
def place (op : Int) : Option Nat := if 70 ≤ op ∧ op ≤ 79 then some (op - 70).toNat else if 106 ≤ op ∧ op ≤ 120 then some (op - 96).toNat else none
def trap (k : Nat) (a b : Int) : Int := if 13 ≤ k ∧ k ≤ 16 then (if b = 0 then 2 else if k = 13 ∧ a = 2147483648 ∧ b = 4294967295 then 3 else 0) else 0
def rv (op a b : Int) : Int := match place op with
  | none => 0
  | some k => if trap k a b = 0 then val k a b else 0
def rt (op a b : Int) : Int := match place op with
  | none => 0
  | some k => trap k a b
def re (op : Int) : Int := match place op with
  | none => 100
  | some _ => 0
theorem place_none {op : Int} (h : op < 70 ∨ (79 < op ∧ op < 106) ∨ 120 < op) : place op = none := by
  unfold place
  rw [if_neg (by omega), if_neg (by omega)]
end Go.Proofs.YtbpgcndanlmdjaaDoor
