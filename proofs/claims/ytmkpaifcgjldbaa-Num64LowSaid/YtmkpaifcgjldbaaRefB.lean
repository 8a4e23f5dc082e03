/-
  WHAT THE DOCUMENT'S OWN TEXT (gangwayref3) ANSWERS OF TWO NUMBERS OF 32 BITS. No condition.
-/
import Derived.Test.YtmkpaifcgjldbaaNumB
import Derived.WalkSpells
import Derived.Lib.Hide
import Derived.WalkLawsBesides
import Derived.Test.YtmkpaifcgjldbaaRows
namespace Go.Proofs.Ytmkpaifcgjldbaa.W32
open Go.RowKit
theorem ret_int {k : IntKind} {a b : Int} (h : a = b) : Ending.returned (.int k a) = .returned (.int k b) := by rw [h]
def Is (a : Int) : Prop := 0 ≤ a ∧ a < 4294967296
def cutv (a : Int) : Int := bits .and .u64 a 4294967295
theorem ret3u {k : IntKind} {a b : Int} {x y : Value} (h : a = b) : Ending.returned (.tuple #[.int k a, x, y]) = .returned (.tuple #[.int k b, x, y]) := by rw [h]
theorem u64_wrap (a : Int) : IntKind.u64.wrap a = a % 18446744073709551616 := by simp [IntKind.wrap, IntKind.bits, IntKind.signed]
set_option maxHeartbeats 400000 in
theorem flag_any (c : Bool) (w : World) : Calls Try.prog 51 #[.bool c] w fun e w' => e = .returned (.int .u64 (fl c)) ∧ w = w' := by
  cases c <;> go_enter Try.func51, Try.ntmps51 <;> go_wp2 <;> go_ret <;> exact ⟨rfl, rfl⟩

theorem sgn64 (a : Int) : wrap64 (wrap32 a) = sgn a := by
  have := sgn_bd a
  show wrap64 (sgn a) = sgn a
  unfold wrap64
  omega
theorem cutv_eq {a : Int} (h0 : 0 ≤ a) (h1 : a < 18446744073709551616) : cutv a = a % 4294967296 := and_low32 a h0 h1

theorem cut_wrap (z : Int) : cutv (IntKind.u64.wrap z) = z % 4294967296 := by
  rw [u64_wrap]
  rw [cutv_eq (by omega) (by omega)]; omega
theorem cut_wrap2 (z : Int) : cutv (IntKind.u64.wrap (wrap64 z)) = z % 4294967296 := by
  rw [cut_wrap]
  unfold wrap64
  omega
theorem wrap_in (z : Int) (h0 : 0 ≤ z) (h1 : z < 18446744073709551616) : IntKind.u64.wrap z = z := by rw [u64_wrap]; omega
theorem t14 {a b : Int} (hA : Is a) (h : 1 ≤ b) : IntKind.u64.wrap (a.tdiv b) = val 14 a b := by
  have e : a.tdiv b = a / b := Int.tdiv_eq_ediv_of_nonneg hA.1
  have d0 : 0 ≤ a / b := Int.ediv_nonneg hA.1 (by omega)
  have d1 : a / b ≤ a := Int.ediv_le_self _ hA.1
  have := hA.2
  rw [e, wrap_in _ d0 (by omega)]
  rfl
theorem neg_is {b : Int} (hB : Is b) (h : (sgn b == -1) = true) : b = 4294967295 := by
  have e : sgn b = -1 := by simpa using h
  have h0 := hB.1
  have h1 := hB.2
  rw [sgn_eq] at e
  omega
theorem neg_15 {a b : Int} (h : (sgn b == -1) = true) : 0 = val 15 a b := by
  have e : sgn b = -1 := by simpa using h
  show 0 = (sgn a).tmod (sgn b) % 4294967296
  rw [e, Int.tmod_neg, Int.tmod_one]
  rfl
theorem neg_13 {a b : Int} (hB : Is b) (h : (sgn b == -1) = true) : -sgn a % 4294967296 = val 13 a b := by
  rw [← v13 (neg_is hB h), sgn_eq]
  omega
theorem t23 (a k : Int) (hA : Is a) (hk : 0 ≤ k) (hk' : k < 32) : cutv (bits .or .u64 (IntKind.u64.wrap (a * 2 ^ k.toNat)) (a / 2 ^ (32 - k).toNat)) = rotl a k.toNat := by
  have e : (32 - k).toNat = 32 - k.toNat := by omega
  have hd := div_pow_bd (32 - k.toNat) hA.1 hA.2
  rw [u64_wrap, e, u64_or _ _ (by omega) (by omega) hd.1 (by omega)]
  have o1 : ((a * 2 ^ k.toNat % 18446744073709551616).toNat ||| (a / 2 ^ (32 - k.toNat)).toNat) < 2 ^ 64 := Nat.or_lt_two_pow (by omega) (by omega)
  rw [cutv_eq (by omega) (by omega)]
  have o2 := @Nat.or_mod_two_pow (a * 2 ^ k.toNat % 18446744073709551616).toNat (a / 2 ^ (32 - k.toNat)).toNat 32
  have o3 : (a * 2 ^ k.toNat % 18446744073709551616).toNat % 2 ^ 32 = (a * 2 ^ k.toNat % 4294967296).toNat := by omega
  have o4 : (a / 2 ^ (32 - k.toNat)).toNat % 2 ^ 32 = (a / 2 ^ (32 - k.toNat)).toNat := by omega
  rw [o3, o4] at o2
  unfold rotl
  omega

set_option maxHeartbeats 400000 in
theorem signed_any (a : Int) (w : World) (hA : Is a) : Calls Try.prog 50 #[.int .u64 a, .int .i64 32] w fun e w' => e = .returned (.int .i64 (sgn a)) ∧ w = w' := by
  have h0 := hA.1
  have h1 := hA.2
  go_enter Try.func50, Try.ntmps50
  go_wp2
  go_ret
  exact ⟨ret_int (sgn64 a), rfl⟩
set_option maxHeartbeats 400000 in
theorem cut_any (a : Int) (w : World) : Calls Try.prog 52 #[.int .u64 a, .int .i64 32] w fun e w' => e = .returned (.int .u64 (cutv a)) ∧ w = w' := by
  go_enter Try.func52, Try.ntmps52
  go_wp2
  go_ret
  exact ⟨rfl, rfl⟩
set_option maxHeartbeats 400000 in
theorem turned_0 (a : Int) (w : World) : Calls Try.prog 54 #[.int .u64 a, .int .u64 0, .int .i64 32] w fun e w' => e = .returned (.int .u64 a) ∧ w = w' := by
  go_enter Try.func54, Try.ntmps54
  go_wp2
  go_ret
  exact ⟨rfl, rfl⟩
set_option maxHeartbeats 400000 in
theorem turned_any (a k : Int) (w : World) (hA : Is a) (hk : 0 < k) (hk' : k < 32) : Calls Try.prog 54 #[.int .u64 a, .int .u64 k, .int .i64 32] w fun e w' => e = .returned (.int .u64 (rotl a k.toNat)) ∧ w = w' := by
  have hz : (k == 0) = false := by simp; omega
  have h0 := hA.1
  go_enter Try.func54, Try.ntmps54
  go_wp2_with (go_at_call 52; refine (cut_any _ _).mono ?_; rintro e w' ⟨rfl, rfl⟩)
  go_ret
  exact ⟨ret_int (t23 a k hA (by omega) hk'), rfl⟩

set_option maxRecDepth 100000 in
set_option maxHeartbeats 400000 in
theorem refbin_10 (a b : Int) (hA : Is a) (hB : Is b) (w : World) :
    Calls Try.prog 21 #[.int .i64 124, .int .u64 a, .int .u64 b, .int .i64 32] w fun e w' => e = .returned (.tuple #[.int .u64 (val 10 a b), .int .i64 0, .bool true]) ∧ w = w' := by
  go_enter Try.func21, Try.ntmps21
  go_wp2_with (first | (go_at_call 50; refine (signed_any _ _ (by first | exact hA | exact hB)).mono ?_; rintro e w' ⟨rfl, rfl⟩) | (go_at_call 52; refine (cut_any _ _).mono ?_; rintro e w' ⟨rfl, rfl⟩) | (go_at_call 51; refine (flag_any _ _).mono ?_; rintro e w' ⟨rfl, rfl⟩))
  go_ret3
  exact ⟨ret3u (cut_wrap _), rfl⟩

set_option maxRecDepth 100000 in
set_option maxHeartbeats 400000 in
theorem refbin_11 (a b : Int) (hA : Is a) (hB : Is b) (w : World) :
    Calls Try.prog 21 #[.int .i64 125, .int .u64 a, .int .u64 b, .int .i64 32] w fun e w' => e = .returned (.tuple #[.int .u64 (val 11 a b), .int .i64 0, .bool true]) ∧ w = w' := by
  go_enter Try.func21, Try.ntmps21
  go_wp2_with (first | (go_at_call 50; refine (signed_any _ _ (by first | exact hA | exact hB)).mono ?_; rintro e w' ⟨rfl, rfl⟩) | (go_at_call 52; refine (cut_any _ _).mono ?_; rintro e w' ⟨rfl, rfl⟩) | (go_at_call 51; refine (flag_any _ _).mono ?_; rintro e w' ⟨rfl, rfl⟩))
  go_ret3
  exact ⟨ret3u (cut_wrap _), rfl⟩

set_option maxRecDepth 100000 in
set_option maxHeartbeats 400000 in
theorem refbin_12 (a b : Int) (hA : Is a) (hB : Is b) (w : World) :
    Calls Try.prog 21 #[.int .i64 126, .int .u64 a, .int .u64 b, .int .i64 32] w fun e w' => e = .returned (.tuple #[.int .u64 (val 12 a b), .int .i64 0, .bool true]) ∧ w = w' := by
  go_enter Try.func21, Try.ntmps21
  go_wp2_with (first | (go_at_call 50; refine (signed_any _ _ (by first | exact hA | exact hB)).mono ?_; rintro e w' ⟨rfl, rfl⟩) | (go_at_call 52; refine (cut_any _ _).mono ?_; rintro e w' ⟨rfl, rfl⟩) | (go_at_call 51; refine (flag_any _ _).mono ?_; rintro e w' ⟨rfl, rfl⟩))
  go_ret3
  exact ⟨ret3u (cut_wrap _), rfl⟩

set_option maxRecDepth 100000 in
set_option maxHeartbeats 400000 in
theorem refbin_17 (a b : Int) (hA : Is a) (hB : Is b) (w : World) :
    Calls Try.prog 21 #[.int .i64 131, .int .u64 a, .int .u64 b, .int .i64 32] w fun e w' => e = .returned (.tuple #[.int .u64 (val 17 a b), .int .i64 0, .bool true]) ∧ w = w' := by
  go_enter Try.func21, Try.ntmps21
  go_wp2_with (first | (go_at_call 50; refine (signed_any _ _ (by first | exact hA | exact hB)).mono ?_; rintro e w' ⟨rfl, rfl⟩) | (go_at_call 52; refine (cut_any _ _).mono ?_; rintro e w' ⟨rfl, rfl⟩) | (go_at_call 51; refine (flag_any _ _).mono ?_; rintro e w' ⟨rfl, rfl⟩))
  go_ret3
  exact ⟨ret3u (u64_and a b hA.1 (Int.lt_of_lt_of_le hA.2 (by decide)) hB.1 (Int.lt_of_lt_of_le hB.2 (by decide))), rfl⟩

set_option maxRecDepth 100000 in
set_option maxHeartbeats 400000 in
theorem refbin_18 (a b : Int) (hA : Is a) (hB : Is b) (w : World) :
    Calls Try.prog 21 #[.int .i64 132, .int .u64 a, .int .u64 b, .int .i64 32] w fun e w' => e = .returned (.tuple #[.int .u64 (val 18 a b), .int .i64 0, .bool true]) ∧ w = w' := by
  go_enter Try.func21, Try.ntmps21
  go_wp2_with (first | (go_at_call 50; refine (signed_any _ _ (by first | exact hA | exact hB)).mono ?_; rintro e w' ⟨rfl, rfl⟩) | (go_at_call 52; refine (cut_any _ _).mono ?_; rintro e w' ⟨rfl, rfl⟩) | (go_at_call 51; refine (flag_any _ _).mono ?_; rintro e w' ⟨rfl, rfl⟩))
  go_ret3
  exact ⟨ret3u (u64_or a b hA.1 (Int.lt_of_lt_of_le hA.2 (by decide)) hB.1 (Int.lt_of_lt_of_le hB.2 (by decide))), rfl⟩

set_option maxRecDepth 100000 in
set_option maxHeartbeats 400000 in
theorem refbin_19 (a b : Int) (hA : Is a) (hB : Is b) (w : World) :
    Calls Try.prog 21 #[.int .i64 133, .int .u64 a, .int .u64 b, .int .i64 32] w fun e w' => e = .returned (.tuple #[.int .u64 (val 19 a b), .int .i64 0, .bool true]) ∧ w = w' := by
  go_enter Try.func21, Try.ntmps21
  go_wp2_with (first | (go_at_call 50; refine (signed_any _ _ (by first | exact hA | exact hB)).mono ?_; rintro e w' ⟨rfl, rfl⟩) | (go_at_call 52; refine (cut_any _ _).mono ?_; rintro e w' ⟨rfl, rfl⟩) | (go_at_call 51; refine (flag_any _ _).mono ?_; rintro e w' ⟨rfl, rfl⟩))
  go_ret3
  exact ⟨ret3u (u64_xor a b hA.1 (Int.lt_of_lt_of_le hA.2 (by decide)) hB.1 (Int.lt_of_lt_of_le hB.2 (by decide))), rfl⟩

set_option maxHeartbeats 400000 in
theorem wide_2 (op : Int) (w : World) (h0 : 103 ≤ op) (h1 : op ≤ 120) : Calls Try.prog 24 #[.int .i64 op] w fun e w' => e = .returned (.int .i64 (op + 18)) ∧ w = w' := by
  go_enter Try.func24, Try.ntmps24
  go_wp2
  go_ret
  exact ⟨rfl, rfl⟩
def BinSays (op a b v t : Int) (ok : Bool) : Prop := ∀ w, Calls Try.prog 21 #[.int .i64 op, .int .u64 a, .int .u64 b, .int .i64 32] w fun e w' => e = .returned (.tuple #[.int .u64 v, .int .i64 t, .bool ok]) ∧ w = w'
set_option maxHeartbeats 400000 in
theorem ref_of (op a b v t : Int) (ok : Bool) (h0 : 103 ≤ op) (h1 : op ≤ 120) (hA : Is a) (hB : Is b) (hV : Is v) (h2 : BinSays (op + 18) a b v t ok) (w : World) :
    Calls Try.prog 18 #[.int .i64 op, .int .u32 a, .int .u32 b] w fun e w' => e = .returned (.tuple #[.int .u32 v, .int .i64 t, .bool ok]) ∧ w = w' := by
  have a0 := hA.1
  have a1 := hA.2
  have b0 := hB.1
  have b1 := hB.2
  have v0 := hV.1
  have v1 := hV.2
  go_enter Try.func18, Try.ntmps18
  go_wp2_with (first | (go_at_call 24; refine (wide_2 op _ h0 h1).mono ?_; rintro e w' ⟨rfl, rfl⟩) | (go_at_call 21; refine (h2 _).mono ?_; rintro e w' ⟨rfl, rfl⟩))
  go_ret3
  exact ⟨rfl, rfl⟩
/-- the six operations that Num64Low asks for: 0 to 5. -/
def six : Nat → Nat
  | 0 => 10
  | 1 => 11
  | 2 => 12
  | 3 => 17
  | 4 => 18
  | _ => 19
def sixOp (j : Nat) : Int := [106, 107, 108, 113, 114, 115].getD j 0
theorem six_any (j : Nat) (hj : j < 6) (a b : Int) (hA : Is a) (hB : Is b) (w : World) :
    Calls Try.prog 18 #[.int .i64 (sixOp j), .int .u32 a, .int .u32 b] w fun e w' => e = .returned (.tuple #[.int .u32 (val (six j) a b), .int .i64 0, .bool true]) ∧ w = w' := by
  have hh : j = 0 ∨ j = 1 ∨ j = 2 ∨ j = 3 ∨ j = 4 ∨ j = 5 := by omega
  rcases hh with rfl | rfl | rfl | rfl | rfl | rfl
  · exact ref_of 106 a b _ 0 true (by decide) (by decide) hA hB (val_bd 10 hA.1 hA.2 hB.1 hB.2 (by simp)) (fun w => refbin_10 a b hA hB w) w
  · exact ref_of 107 a b _ 0 true (by decide) (by decide) hA hB (val_bd 11 hA.1 hA.2 hB.1 hB.2 (by simp)) (fun w => refbin_11 a b hA hB w) w
  · exact ref_of 108 a b _ 0 true (by decide) (by decide) hA hB (val_bd 12 hA.1 hA.2 hB.1 hB.2 (by simp)) (fun w => refbin_12 a b hA hB w) w
  · exact ref_of 113 a b _ 0 true (by decide) (by decide) hA hB (val_bd 17 hA.1 hA.2 hB.1 hB.2 (by simp)) (fun w => refbin_17 a b hA hB w) w
  · exact ref_of 114 a b _ 0 true (by decide) (by decide) hA hB (val_bd 18 hA.1 hA.2 hB.1 hB.2 (by simp)) (fun w => refbin_18 a b hA hB w) w
  · exact ref_of 115 a b _ 0 true (by decide) (by decide) hA hB (val_bd 19 hA.1 hA.2 hB.1 hB.2 (by simp)) (fun w => refbin_19 a b hA hB w) w
end Go.Proofs.Ytmkpaifcgjldbaa.W32
