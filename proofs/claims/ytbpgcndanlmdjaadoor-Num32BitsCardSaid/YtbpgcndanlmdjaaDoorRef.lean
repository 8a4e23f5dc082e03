/-
  WHAT THE DOCUMENT'S OWN TEXT (gangwayref3) ANSWERS OF TWO NUMBERS OF 32 BITS. No condition.
-/
import Derived.Test.YtbpgcndanlmdjaaDoorBin
namespace Go.Proofs.YtbpgcndanlmdjaaDoor
open Go.RowKit

def cutv (a : Int) : Int := bits .and .u64 a 4294967295
theorem ret3u {k : IntKind} {a b : Int} {x y : Value} (h : a = b) : Ending.returned (.tuple #[.int k a, x, y]) = .returned (.tuple #[.int k b, x, y]) := by rw [h]
theorem u64_wrap (a : Int) : IntKind.u64.wrap a = a % 18446744073709551616 := by simp [IntKind.wrap, IntKind.bits, IntKind.signed]
set_option maxHeartbeats 400000 in
theorem flag_any (c : Bool) (w : World) : Calls Tryd.prog 22 #[.bool c] w fun e w' => e = .returned (.int .u64 (fl c)) ∧ w = w' := by
  cases c <;> go_enter Tryd.func22, Tryd.ntmps22 <;> go_wp2 <;> go_ret <;> exact ⟨rfl, rfl⟩

theorem sgn64 (a : Int) : wrap64 (wrap32 a) = sgn a := by
  have := sgn_bd a
  show wrap64 (sgn a) = sgn a
  unfold wrap64
  omega
theorem cutv_eq {a : Int} (h0 : 0 ≤ a) (h1 : a < 18446744073709551616) : cutv a = a % 4294967296 := and_low32 a h0 h1

theorem cut_wrap (z : Int) : cutv (IntKind.u64.wrap z) = z % 4294967296 := by
  rw [u64_wrap]
  rw [cutv_eq (by omega) (by omega)]; omega
theorem cut_wrap2 (z : Int) : cutv (IntKind.u64.wrap (wrap64 z)) = z % 4294967296 := by
  rw [cut_wrap]
  unfold wrap64
  omega
theorem wrap_in (z : Int) (h0 : 0 ≤ z) (h1 : z < 18446744073709551616) : IntKind.u64.wrap z = z := by rw [u64_wrap]; omega
theorem t14 {a b : Int} (hA : Is a) (h : 1 ≤ b) : IntKind.u64.wrap (a.tdiv b) = val 14 a b := by
  have e : a.tdiv b = a / b := Int.tdiv_eq_ediv_of_nonneg hA.1
  have d0 : 0 ≤ a / b := Int.ediv_nonneg hA.1 (by omega)
  have d1 : a / b ≤ a := Int.ediv_le_self _ hA.1
  have := hA.2
  rw [e, wrap_in _ d0 (by omega)]
  rfl
theorem neg_is {b : Int} (hB : Is b) (h : (sgn b == -1) = true) : b = 4294967295 := by
  have e : sgn b = -1 := by simpa using h
  have h0 := hB.1
  have h1 := hB.2
  rw [sgn_eq] at e
  omega
theorem neg_15 {a b : Int} (h : (sgn b == -1) = true) : 0 = val 15 a b := by
  have e : sgn b = -1 := by simpa using h
  show 0 = (sgn a).tmod (sgn b) % 4294967296
  rw [e, Int.tmod_neg, Int.tmod_one]
  rfl
theorem neg_13 {a b : Int} (hB : Is b) (h : (sgn b == -1) = true) : -sgn a % 4294967296 = val 13 a b := by
  rw [← v13 (neg_is hB h), sgn_eq]
  omega
theorem t23 (a k : Int) (hA : Is a) (hk : 0 ≤ k) (hk' : k < 32) : cutv (bits .or .u64 (IntKind.u64.wrap (a * 2 ^ k.toNat)) (a / 2 ^ (32 - k).toNat)) = rotl a k.toNat := by
  have e : (32 - k).toNat = 32 - k.toNat := by omega
  have hd := div_pow_bd (32 - k.toNat) hA.1 hA.2
  rw [u64_wrap, e, u64_or _ _ (by omega) (by omega) hd.1 (by omega)]
  have o1 : ((a * 2 ^ k.toNat % 18446744073709551616).toNat ||| (a / 2 ^ (32 - k.toNat)).toNat) < 2 ^ 64 := Nat.or_lt_two_pow (by omega) (by omega)
  rw [cutv_eq (by omega) (by omega)]
  have o2 := @Nat.or_mod_two_pow (a * 2 ^ k.toNat % 18446744073709551616).toNat (a / 2 ^ (32 - k.toNat)).toNat 32
  have o3 : (a * 2 ^ k.toNat % 18446744073709551616).toNat % 2 ^ 32 = (a * 2 ^ k.toNat % 4294967296).toNat := by omega
  have o4 : (a / 2 ^ (32 - k.toNat)).toNat % 2 ^ 32 = (a / 2 ^ (32 - k.toNat)).toNat := by omega
  rw [o3, o4] at o2
  unfold rotl
  omega

set_option maxHeartbeats 400000 in
theorem signed_any (a : Int) (w : World) (hA : Is a) : Calls Tryd.prog 48 #[.int .u64 a, .int .i64 32] w fun e w' => e = .returned (.int .i64 (sgn a)) ∧ w = w' := by
  have h0 := hA.1
  have h1 := hA.2
  go_enter Tryd.func48, Tryd.ntmps48
  go_wp2
  go_ret
  exact ⟨ret_int (sgn64 a), rfl⟩
set_option maxHeartbeats 400000 in
theorem cut_any (a : Int) (w : World) : Calls Tryd.prog 49 #[.int .u64 a, .int .i64 32] w fun e w' => e = .returned (.int .u64 (cutv a)) ∧ w = w' := by
  go_enter Tryd.func49, Tryd.ntmps49
  go_wp2
  go_ret
  exact ⟨rfl, rfl⟩
set_option maxHeartbeats 400000 in
theorem turned_0 (a : Int) (w : World) : Calls Tryd.prog 51 #[.int .u64 a, .int .u64 0, .int .i64 32] w fun e w' => e = .returned (.int .u64 a) ∧ w = w' := by
  go_enter Tryd.func51, Tryd.ntmps51
  go_wp2
  go_ret
  exact ⟨rfl, rfl⟩
set_option maxHeartbeats 400000 in
theorem turned_any (a k : Int) (w : World) (hA : Is a) (hk : 0 < k) (hk' : k < 32) : Calls Tryd.prog 51 #[.int .u64 a, .int .u64 k, .int .i64 32] w fun e w' => e = .returned (.int .u64 (rotl a k.toNat)) ∧ w = w' := by
  have hz : (k == 0) = false := by simp; omega
  have h0 := hA.1
  go_enter Tryd.func51, Tryd.ntmps51
  go_wp2_with (go_at_call 49; refine (cut_any _ _).mono ?_; rintro e w' ⟨rfl, rfl⟩)
  go_ret
  exact ⟨ret_int (t23 a k hA (by omega) hk'), rfl⟩

set_option maxHeartbeats 400000 in
theorem quot_0 (a b : Int) (w : World) (hA : Is a) (hB : Is b) (hz : ¬ b = 0) (ho : Hid (¬ (a = 2147483648 ∧ b = 4294967295))) :
    Calls Tryd.prog 50 #[.int .i64 127, .int .u64 a, .int .u64 b, .int .i64 32] w fun e w' => e = .returned (.tuple #[.int .u64 (val 13 a b), .int .i64 0, .bool true]) ∧ w = w' := by
  have hz2 : ¬ sgn b = 0 := sgn_ne hB.1 hB.2 hz
  go_enter Tryd.func50, Tryd.ntmps50
  go_wp2_with (first | (go_at_call 48; refine (signed_any _ _ (by first | exact hA | exact hB)).mono ?_; rintro e w' ⟨rfl, rfl⟩) | (go_at_call 49; refine (cut_any _ _).mono ?_; rintro e w' ⟨rfl, rfl⟩))
  · go_ret3
    exact absurd ⟨by simpa using ‹(a == 2147483648) = true›, neg_is hB ‹(sgn b == -1) = true›⟩ ho.out
  · go_ret3
    exact ⟨ret3u ((cut_wrap2 _).trans (neg_13 hB ‹(sgn b == -1) = true›)), rfl⟩
  · go_ret3
    exact ⟨ret3u (cut_wrap2 _), rfl⟩

set_option maxHeartbeats 400000 in
theorem quot_1 (a b : Int) (w : World) (hA : Is a) (hB : Is b) (hz : ¬ b = 0) :
    Calls Tryd.prog 50 #[.int .i64 128, .int .u64 a, .int .u64 b, .int .i64 32] w fun e w' => e = .returned (.tuple #[.int .u64 (val 14 a b), .int .i64 0, .bool true]) ∧ w = w' := by
  have h0 := hA.1
  have h1 : 1 ≤ b := by have := hB.1; omega
  go_enter Tryd.func50, Tryd.ntmps50
  go_wp2_with (first | (go_at_call 48; refine (signed_any _ _ (by first | exact hA | exact hB)).mono ?_; rintro e w' ⟨rfl, rfl⟩) | (go_at_call 49; refine (cut_any _ _).mono ?_; rintro e w' ⟨rfl, rfl⟩))
  go_ret3
  exact ⟨ret3u (t14 hA h1), rfl⟩

set_option maxHeartbeats 400000 in
theorem quot_2 (a b : Int) (w : World) (hA : Is a) (hB : Is b) (hz : ¬ b = 0) :
    Calls Tryd.prog 50 #[.int .i64 129, .int .u64 a, .int .u64 b, .int .i64 32] w fun e w' => e = .returned (.tuple #[.int .u64 (val 15 a b), .int .i64 0, .bool true]) ∧ w = w' := by
  have hz2 : ¬ sgn b = 0 := sgn_ne hB.1 hB.2 hz
  go_enter Tryd.func50, Tryd.ntmps50
  go_wp2_with (first | (go_at_call 48; refine (signed_any _ _ (by first | exact hA | exact hB)).mono ?_; rintro e w' ⟨rfl, rfl⟩) | (go_at_call 49; refine (cut_any _ _).mono ?_; rintro e w' ⟨rfl, rfl⟩))
  · go_ret3
    exact ⟨ret3u (neg_15 (a := a) ‹(sgn b == -1) = true›), rfl⟩
  · go_ret3
    exact ⟨ret3u (cut_wrap _), rfl⟩

set_option maxHeartbeats 400000 in
theorem quot_3 (a b : Int) (w : World) (hA : Is a) (hB : Is b) (hz : ¬ b = 0) :
    Calls Tryd.prog 50 #[.int .i64 130, .int .u64 a, .int .u64 b, .int .i64 32] w fun e w' => e = .returned (.tuple #[.int .u64 (val 16 a b), .int .i64 0, .bool true]) ∧ w = w' := by
  have h0 := hA.1
  have h1 : 1 ≤ b := by have := hB.1; omega
  go_enter Tryd.func50, Tryd.ntmps50
  go_wp2_with (first | (go_at_call 48; refine (signed_any _ _ (by first | exact hA | exact hB)).mono ?_; rintro e w' ⟨rfl, rfl⟩) | (go_at_call 49; refine (cut_any _ _).mono ?_; rintro e w' ⟨rfl, rfl⟩))
  go_ret3
  exact ⟨rfl, rfl⟩

set_option maxHeartbeats 400000 in
theorem quot_over (w : World) : Calls Tryd.prog 50 #[.int .i64 127, .int .u64 2147483648, .int .u64 4294967295, .int .i64 32] w fun e w' => e = .returned (.tuple #[.int .u64 0, .int .i64 3, .bool true]) ∧ w = w' := by
  have hs : (sgn 4294967295 == -1) = true := by rw [sgn_eq]; decide
  go_enter Tryd.func50, Tryd.ntmps50
  go_wp2_with (go_at_call 48; refine (signed_any _ _ (by constructor <;> decide)).mono ?_; rintro e w' ⟨rfl, rfl⟩)
  go_ret3
  exact ⟨rfl, rfl⟩

set_option maxRecDepth 100000 in
set_option maxHeartbeats 400000 in
theorem refbin_0 (a b : Int) (hA : Is a) (hB : Is b) (w : World) :
    Calls Tryd.prog 17 #[.int .i64 81, .int .u64 a, .int .u64 b, .int .i64 32] w fun e w' => e = .returned (.tuple #[.int .u64 (val 0 a b), .int .i64 0, .bool true]) ∧ w = w' := by
  go_enter Tryd.func17, Tryd.ntmps17
  go_wp2_with (first | (go_at_call 48; refine (signed_any _ _ (by first | exact hA | exact hB)).mono ?_; rintro e w' ⟨rfl, rfl⟩) | (go_at_call 49; refine (cut_any _ _).mono ?_; rintro e w' ⟨rfl, rfl⟩) | (go_at_call 22; refine (flag_any _ _).mono ?_; rintro e w' ⟨rfl, rfl⟩))
  go_ret3
  exact ⟨ret3u (congrArg fl (by rw [Bool.eq_iff_iff]; simp)), rfl⟩

set_option maxRecDepth 100000 in
set_option maxHeartbeats 400000 in
theorem refbin_1 (a b : Int) (hA : Is a) (hB : Is b) (w : World) :
    Calls Tryd.prog 17 #[.int .i64 82, .int .u64 a, .int .u64 b, .int .i64 32] w fun e w' => e = .returned (.tuple #[.int .u64 (val 1 a b), .int .i64 0, .bool true]) ∧ w = w' := by
  go_enter Tryd.func17, Tryd.ntmps17
  go_wp2_with (first | (go_at_call 48; refine (signed_any _ _ (by first | exact hA | exact hB)).mono ?_; rintro e w' ⟨rfl, rfl⟩) | (go_at_call 49; refine (cut_any _ _).mono ?_; rintro e w' ⟨rfl, rfl⟩) | (go_at_call 22; refine (flag_any _ _).mono ?_; rintro e w' ⟨rfl, rfl⟩))
  go_ret3
  exact ⟨ret3u (congrArg fl (by rw [Bool.eq_iff_iff]; simp)), rfl⟩

set_option maxRecDepth 100000 in
set_option maxHeartbeats 400000 in
theorem refbin_2 (a b : Int) (hA : Is a) (hB : Is b) (w : World) :
    Calls Tryd.prog 17 #[.int .i64 83, .int .u64 a, .int .u64 b, .int .i64 32] w fun e w' => e = .returned (.tuple #[.int .u64 (val 2 a b), .int .i64 0, .bool true]) ∧ w = w' := by
  go_enter Tryd.func17, Tryd.ntmps17
  go_wp2_with (first | (go_at_call 48; refine (signed_any _ _ (by first | exact hA | exact hB)).mono ?_; rintro e w' ⟨rfl, rfl⟩) | (go_at_call 49; refine (cut_any _ _).mono ?_; rintro e w' ⟨rfl, rfl⟩) | (go_at_call 22; refine (flag_any _ _).mono ?_; rintro e w' ⟨rfl, rfl⟩))
  go_ret3
  exact ⟨rfl, rfl⟩

set_option maxRecDepth 100000 in
set_option maxHeartbeats 400000 in
theorem refbin_3 (a b : Int) (hA : Is a) (hB : Is b) (w : World) :
    Calls Tryd.prog 17 #[.int .i64 84, .int .u64 a, .int .u64 b, .int .i64 32] w fun e w' => e = .returned (.tuple #[.int .u64 (val 3 a b), .int .i64 0, .bool true]) ∧ w = w' := by
  go_enter Tryd.func17, Tryd.ntmps17
  go_wp2_with (first | (go_at_call 48; refine (signed_any _ _ (by first | exact hA | exact hB)).mono ?_; rintro e w' ⟨rfl, rfl⟩) | (go_at_call 49; refine (cut_any _ _).mono ?_; rintro e w' ⟨rfl, rfl⟩) | (go_at_call 22; refine (flag_any _ _).mono ?_; rintro e w' ⟨rfl, rfl⟩))
  go_ret3
  exact ⟨rfl, rfl⟩

set_option maxRecDepth 100000 in
set_option maxHeartbeats 400000 in
theorem refbin_4 (a b : Int) (hA : Is a) (hB : Is b) (w : World) :
    Calls Tryd.prog 17 #[.int .i64 85, .int .u64 a, .int .u64 b, .int .i64 32] w fun e w' => e = .returned (.tuple #[.int .u64 (val 4 a b), .int .i64 0, .bool true]) ∧ w = w' := by
  go_enter Tryd.func17, Tryd.ntmps17
  go_wp2_with (first | (go_at_call 48; refine (signed_any _ _ (by first | exact hA | exact hB)).mono ?_; rintro e w' ⟨rfl, rfl⟩) | (go_at_call 49; refine (cut_any _ _).mono ?_; rintro e w' ⟨rfl, rfl⟩) | (go_at_call 22; refine (flag_any _ _).mono ?_; rintro e w' ⟨rfl, rfl⟩))
  go_ret3
  exact ⟨rfl, rfl⟩

set_option maxRecDepth 100000 in
set_option maxHeartbeats 400000 in
theorem refbin_5 (a b : Int) (hA : Is a) (hB : Is b) (w : World) :
    Calls Tryd.prog 17 #[.int .i64 86, .int .u64 a, .int .u64 b, .int .i64 32] w fun e w' => e = .returned (.tuple #[.int .u64 (val 5 a b), .int .i64 0, .bool true]) ∧ w = w' := by
  go_enter Tryd.func17, Tryd.ntmps17
  go_wp2_with (first | (go_at_call 48; refine (signed_any _ _ (by first | exact hA | exact hB)).mono ?_; rintro e w' ⟨rfl, rfl⟩) | (go_at_call 49; refine (cut_any _ _).mono ?_; rintro e w' ⟨rfl, rfl⟩) | (go_at_call 22; refine (flag_any _ _).mono ?_; rintro e w' ⟨rfl, rfl⟩))
  go_ret3
  exact ⟨rfl, rfl⟩

set_option maxRecDepth 100000 in
set_option maxHeartbeats 400000 in
theorem refbin_6 (a b : Int) (hA : Is a) (hB : Is b) (w : World) :
    Calls Tryd.prog 17 #[.int .i64 87, .int .u64 a, .int .u64 b, .int .i64 32] w fun e w' => e = .returned (.tuple #[.int .u64 (val 6 a b), .int .i64 0, .bool true]) ∧ w = w' := by
  go_enter Tryd.func17, Tryd.ntmps17
  go_wp2_with (first | (go_at_call 48; refine (signed_any _ _ (by first | exact hA | exact hB)).mono ?_; rintro e w' ⟨rfl, rfl⟩) | (go_at_call 49; refine (cut_any _ _).mono ?_; rintro e w' ⟨rfl, rfl⟩) | (go_at_call 22; refine (flag_any _ _).mono ?_; rintro e w' ⟨rfl, rfl⟩))
  go_ret3
  exact ⟨rfl, rfl⟩

set_option maxRecDepth 100000 in
set_option maxHeartbeats 400000 in
theorem refbin_7 (a b : Int) (hA : Is a) (hB : Is b) (w : World) :
    Calls Tryd.prog 17 #[.int .i64 88, .int .u64 a, .int .u64 b, .int .i64 32] w fun e w' => e = .returned (.tuple #[.int .u64 (val 7 a b), .int .i64 0, .bool true]) ∧ w = w' := by
  go_enter Tryd.func17, Tryd.ntmps17
  go_wp2_with (first | (go_at_call 48; refine (signed_any _ _ (by first | exact hA | exact hB)).mono ?_; rintro e w' ⟨rfl, rfl⟩) | (go_at_call 49; refine (cut_any _ _).mono ?_; rintro e w' ⟨rfl, rfl⟩) | (go_at_call 22; refine (flag_any _ _).mono ?_; rintro e w' ⟨rfl, rfl⟩))
  go_ret3
  exact ⟨rfl, rfl⟩

set_option maxRecDepth 100000 in
set_option maxHeartbeats 400000 in
theorem refbin_8 (a b : Int) (hA : Is a) (hB : Is b) (w : World) :
    Calls Tryd.prog 17 #[.int .i64 89, .int .u64 a, .int .u64 b, .int .i64 32] w fun e w' => e = .returned (.tuple #[.int .u64 (val 8 a b), .int .i64 0, .bool true]) ∧ w = w' := by
  go_enter Tryd.func17, Tryd.ntmps17
  go_wp2_with (first | (go_at_call 48; refine (signed_any _ _ (by first | exact hA | exact hB)).mono ?_; rintro e w' ⟨rfl, rfl⟩) | (go_at_call 49; refine (cut_any _ _).mono ?_; rintro e w' ⟨rfl, rfl⟩) | (go_at_call 22; refine (flag_any _ _).mono ?_; rintro e w' ⟨rfl, rfl⟩))
  go_ret3
  exact ⟨rfl, rfl⟩

set_option maxRecDepth 100000 in
set_option maxHeartbeats 400000 in
theorem refbin_9 (a b : Int) (hA : Is a) (hB : Is b) (w : World) :
    Calls Tryd.prog 17 #[.int .i64 90, .int .u64 a, .int .u64 b, .int .i64 32] w fun e w' => e = .returned (.tuple #[.int .u64 (val 9 a b), .int .i64 0, .bool true]) ∧ w = w' := by
  go_enter Tryd.func17, Tryd.ntmps17
  go_wp2_with (first | (go_at_call 48; refine (signed_any _ _ (by first | exact hA | exact hB)).mono ?_; rintro e w' ⟨rfl, rfl⟩) | (go_at_call 49; refine (cut_any _ _).mono ?_; rintro e w' ⟨rfl, rfl⟩) | (go_at_call 22; refine (flag_any _ _).mono ?_; rintro e w' ⟨rfl, rfl⟩))
  go_ret3
  exact ⟨rfl, rfl⟩

set_option maxRecDepth 100000 in
set_option maxHeartbeats 400000 in
theorem refbin_10 (a b : Int) (hA : Is a) (hB : Is b) (w : World) :
    Calls Tryd.prog 17 #[.int .i64 124, .int .u64 a, .int .u64 b, .int .i64 32] w fun e w' => e = .returned (.tuple #[.int .u64 (val 10 a b), .int .i64 0, .bool true]) ∧ w = w' := by
  go_enter Tryd.func17, Tryd.ntmps17
  go_wp2_with (first | (go_at_call 48; refine (signed_any _ _ (by first | exact hA | exact hB)).mono ?_; rintro e w' ⟨rfl, rfl⟩) | (go_at_call 49; refine (cut_any _ _).mono ?_; rintro e w' ⟨rfl, rfl⟩) | (go_at_call 22; refine (flag_any _ _).mono ?_; rintro e w' ⟨rfl, rfl⟩))
  go_ret3
  exact ⟨ret3u (cut_wrap _), rfl⟩

set_option maxRecDepth 100000 in
set_option maxHeartbeats 400000 in
theorem refbin_11 (a b : Int) (hA : Is a) (hB : Is b) (w : World) :
    Calls Tryd.prog 17 #[.int .i64 125, .int .u64 a, .int .u64 b, .int .i64 32] w fun e w' => e = .returned (.tuple #[.int .u64 (val 11 a b), .int .i64 0, .bool true]) ∧ w = w' := by
  go_enter Tryd.func17, Tryd.ntmps17
  go_wp2_with (first | (go_at_call 48; refine (signed_any _ _ (by first | exact hA | exact hB)).mono ?_; rintro e w' ⟨rfl, rfl⟩) | (go_at_call 49; refine (cut_any _ _).mono ?_; rintro e w' ⟨rfl, rfl⟩) | (go_at_call 22; refine (flag_any _ _).mono ?_; rintro e w' ⟨rfl, rfl⟩))
  go_ret3
  exact ⟨ret3u (cut_wrap _), rfl⟩

set_option maxRecDepth 100000 in
set_option maxHeartbeats 400000 in
theorem refbin_12 (a b : Int) (hA : Is a) (hB : Is b) (w : World) :
    Calls Tryd.prog 17 #[.int .i64 126, .int .u64 a, .int .u64 b, .int .i64 32] w fun e w' => e = .returned (.tuple #[.int .u64 (val 12 a b), .int .i64 0, .bool true]) ∧ w = w' := by
  go_enter Tryd.func17, Tryd.ntmps17
  go_wp2_with (first | (go_at_call 48; refine (signed_any _ _ (by first | exact hA | exact hB)).mono ?_; rintro e w' ⟨rfl, rfl⟩) | (go_at_call 49; refine (cut_any _ _).mono ?_; rintro e w' ⟨rfl, rfl⟩) | (go_at_call 22; refine (flag_any _ _).mono ?_; rintro e w' ⟨rfl, rfl⟩))
  go_ret3
  exact ⟨ret3u (cut_wrap _), rfl⟩

set_option maxRecDepth 100000 in
set_option maxHeartbeats 400000 in
theorem refbin_13_zero (a : Int) (hA : Is a) (w : World) :
    Calls Tryd.prog 17 #[.int .i64 127, .int .u64 a, .int .u64 0, .int .i64 32] w fun e w' => e = .returned (.tuple #[.int .u64 0, .int .i64 2, .bool true]) ∧ w = w' := by
  have hB : Is 0 := ⟨by decide, by decide⟩
  go_enter Tryd.func17, Tryd.ntmps17
  go_wp2_with (first | (go_at_call 48; refine (signed_any _ _ (by first | exact hA | exact hB)).mono ?_; rintro e w' ⟨rfl, rfl⟩))
  go_ret3
  exact ⟨rfl, rfl⟩

set_option maxRecDepth 100000 in
set_option maxHeartbeats 400000 in
theorem refbin_13_over (w : World) :
    Calls Tryd.prog 17 #[.int .i64 127, .int .u64 2147483648, .int .u64 4294967295, .int .i64 32] w fun e w' => e = .returned (.tuple #[.int .u64 0, .int .i64 3, .bool true]) ∧ w = w' := by
  have hA : Is 2147483648 := ⟨by decide, by decide⟩
  have hB : Is 4294967295 := ⟨by decide, by decide⟩
  go_enter Tryd.func17, Tryd.ntmps17
  go_wp2_with (first | (go_at_call 48; refine (signed_any _ _ (by first | exact hA | exact hB)).mono ?_; rintro e w' ⟨rfl, rfl⟩) | (go_at_call 50; refine (quot_over _).mono ?_; rintro e w' ⟨rfl, rfl⟩))
  go_ret3
  exact ⟨rfl, rfl⟩

set_option maxRecDepth 100000 in
set_option maxHeartbeats 400000 in
theorem refbin_13 (a b : Int) (hA : Is a) (hB : Is b) (hz : ¬ b = 0) (ho : Hid (¬ (a = 2147483648 ∧ b = 4294967295))) (w : World) :
    Calls Tryd.prog 17 #[.int .i64 127, .int .u64 a, .int .u64 b, .int .i64 32] w fun e w' => e = .returned (.tuple #[.int .u64 (val 13 a b), .int .i64 0, .bool true]) ∧ w = w' := by
  have hz' : (b == 0) = false := by simpa using hz
  have HZ := Lib.hid hz
  clear hz
  go_enter Tryd.func17, Tryd.ntmps17
  go_wp2_with (first | (go_at_call 48; refine (signed_any _ _ (by first | exact hA | exact hB)).mono ?_; rintro e w' ⟨rfl, rfl⟩) | (go_at_call 50; refine (quot_0 _ _ _ hA hB HZ.out ho).mono ?_; rintro e w' ⟨rfl, rfl⟩))
  go_ret3
  exact ⟨rfl, rfl⟩

set_option maxRecDepth 100000 in
set_option maxHeartbeats 400000 in
theorem refbin_14_zero (a : Int) (hA : Is a) (w : World) :
    Calls Tryd.prog 17 #[.int .i64 128, .int .u64 a, .int .u64 0, .int .i64 32] w fun e w' => e = .returned (.tuple #[.int .u64 0, .int .i64 2, .bool true]) ∧ w = w' := by
  have hB : Is 0 := ⟨by decide, by decide⟩
  go_enter Tryd.func17, Tryd.ntmps17
  go_wp2_with (first | (go_at_call 48; refine (signed_any _ _ (by first | exact hA | exact hB)).mono ?_; rintro e w' ⟨rfl, rfl⟩))
  go_ret3
  exact ⟨rfl, rfl⟩

set_option maxRecDepth 100000 in
set_option maxHeartbeats 400000 in
theorem refbin_14 (a b : Int) (hA : Is a) (hB : Is b) (hz : ¬ b = 0) (w : World) :
    Calls Tryd.prog 17 #[.int .i64 128, .int .u64 a, .int .u64 b, .int .i64 32] w fun e w' => e = .returned (.tuple #[.int .u64 (val 14 a b), .int .i64 0, .bool true]) ∧ w = w' := by
  have hz' : (b == 0) = false := by simpa using hz
  have HZ := Lib.hid hz
  clear hz
  go_enter Tryd.func17, Tryd.ntmps17
  go_wp2_with (first | (go_at_call 48; refine (signed_any _ _ (by first | exact hA | exact hB)).mono ?_; rintro e w' ⟨rfl, rfl⟩) | (go_at_call 50; refine (quot_1 _ _ _ hA hB HZ.out).mono ?_; rintro e w' ⟨rfl, rfl⟩))
  go_ret3
  exact ⟨rfl, rfl⟩

set_option maxRecDepth 100000 in
set_option maxHeartbeats 400000 in
theorem refbin_15_zero (a : Int) (hA : Is a) (w : World) :
    Calls Tryd.prog 17 #[.int .i64 129, .int .u64 a, .int .u64 0, .int .i64 32] w fun e w' => e = .returned (.tuple #[.int .u64 0, .int .i64 2, .bool true]) ∧ w = w' := by
  have hB : Is 0 := ⟨by decide, by decide⟩
  go_enter Tryd.func17, Tryd.ntmps17
  go_wp2_with (first | (go_at_call 48; refine (signed_any _ _ (by first | exact hA | exact hB)).mono ?_; rintro e w' ⟨rfl, rfl⟩))
  go_ret3
  exact ⟨rfl, rfl⟩

set_option maxRecDepth 100000 in
set_option maxHeartbeats 400000 in
theorem refbin_15 (a b : Int) (hA : Is a) (hB : Is b) (hz : ¬ b = 0) (w : World) :
    Calls Tryd.prog 17 #[.int .i64 129, .int .u64 a, .int .u64 b, .int .i64 32] w fun e w' => e = .returned (.tuple #[.int .u64 (val 15 a b), .int .i64 0, .bool true]) ∧ w = w' := by
  have hz' : (b == 0) = false := by simpa using hz
  have HZ := Lib.hid hz
  clear hz
  go_enter Tryd.func17, Tryd.ntmps17
  go_wp2_with (first | (go_at_call 48; refine (signed_any _ _ (by first | exact hA | exact hB)).mono ?_; rintro e w' ⟨rfl, rfl⟩) | (go_at_call 50; refine (quot_2 _ _ _ hA hB HZ.out).mono ?_; rintro e w' ⟨rfl, rfl⟩))
  go_ret3
  exact ⟨rfl, rfl⟩

set_option maxRecDepth 100000 in
set_option maxHeartbeats 400000 in
theorem refbin_16_zero (a : Int) (hA : Is a) (w : World) :
    Calls Tryd.prog 17 #[.int .i64 130, .int .u64 a, .int .u64 0, .int .i64 32] w fun e w' => e = .returned (.tuple #[.int .u64 0, .int .i64 2, .bool true]) ∧ w = w' := by
  have hB : Is 0 := ⟨by decide, by decide⟩
  go_enter Tryd.func17, Tryd.ntmps17
  go_wp2_with (first | (go_at_call 48; refine (signed_any _ _ (by first | exact hA | exact hB)).mono ?_; rintro e w' ⟨rfl, rfl⟩))
  go_ret3
  exact ⟨rfl, rfl⟩

set_option maxRecDepth 100000 in
set_option maxHeartbeats 400000 in
theorem refbin_16 (a b : Int) (hA : Is a) (hB : Is b) (hz : ¬ b = 0) (w : World) :
    Calls Tryd.prog 17 #[.int .i64 130, .int .u64 a, .int .u64 b, .int .i64 32] w fun e w' => e = .returned (.tuple #[.int .u64 (val 16 a b), .int .i64 0, .bool true]) ∧ w = w' := by
  have hz' : (b == 0) = false := by simpa using hz
  have HZ := Lib.hid hz
  clear hz
  go_enter Tryd.func17, Tryd.ntmps17
  go_wp2_with (first | (go_at_call 48; refine (signed_any _ _ (by first | exact hA | exact hB)).mono ?_; rintro e w' ⟨rfl, rfl⟩) | (go_at_call 50; refine (quot_3 _ _ _ hA hB HZ.out).mono ?_; rintro e w' ⟨rfl, rfl⟩))
  go_ret3
  exact ⟨rfl, rfl⟩

set_option maxRecDepth 100000 in
set_option maxHeartbeats 400000 in
theorem refbin_17 (a b : Int) (hA : Is a) (hB : Is b) (w : World) :
    Calls Tryd.prog 17 #[.int .i64 131, .int .u64 a, .int .u64 b, .int .i64 32] w fun e w' => e = .returned (.tuple #[.int .u64 (val 17 a b), .int .i64 0, .bool true]) ∧ w = w' := by
  go_enter Tryd.func17, Tryd.ntmps17
  go_wp2_with (first | (go_at_call 48; refine (signed_any _ _ (by first | exact hA | exact hB)).mono ?_; rintro e w' ⟨rfl, rfl⟩) | (go_at_call 49; refine (cut_any _ _).mono ?_; rintro e w' ⟨rfl, rfl⟩) | (go_at_call 22; refine (flag_any _ _).mono ?_; rintro e w' ⟨rfl, rfl⟩))
  go_ret3
  exact ⟨ret3u (u64_and a b hA.1 (Int.lt_of_lt_of_le hA.2 (by decide)) hB.1 (Int.lt_of_lt_of_le hB.2 (by decide))), rfl⟩

set_option maxRecDepth 100000 in
set_option maxHeartbeats 400000 in
theorem refbin_18 (a b : Int) (hA : Is a) (hB : Is b) (w : World) :
    Calls Tryd.prog 17 #[.int .i64 132, .int .u64 a, .int .u64 b, .int .i64 32] w fun e w' => e = .returned (.tuple #[.int .u64 (val 18 a b), .int .i64 0, .bool true]) ∧ w = w' := by
  go_enter Tryd.func17, Tryd.ntmps17
  go_wp2_with (first | (go_at_call 48; refine (signed_any _ _ (by first | exact hA | exact hB)).mono ?_; rintro e w' ⟨rfl, rfl⟩) | (go_at_call 49; refine (cut_any _ _).mono ?_; rintro e w' ⟨rfl, rfl⟩) | (go_at_call 22; refine (flag_any _ _).mono ?_; rintro e w' ⟨rfl, rfl⟩))
  go_ret3
  exact ⟨ret3u (u64_or a b hA.1 (Int.lt_of_lt_of_le hA.2 (by decide)) hB.1 (Int.lt_of_lt_of_le hB.2 (by decide))), rfl⟩

set_option maxRecDepth 100000 in
set_option maxHeartbeats 400000 in
theorem refbin_19 (a b : Int) (hA : Is a) (hB : Is b) (w : World) :
    Calls Tryd.prog 17 #[.int .i64 133, .int .u64 a, .int .u64 b, .int .i64 32] w fun e w' => e = .returned (.tuple #[.int .u64 (val 19 a b), .int .i64 0, .bool true]) ∧ w = w' := by
  go_enter Tryd.func17, Tryd.ntmps17
  go_wp2_with (first | (go_at_call 48; refine (signed_any _ _ (by first | exact hA | exact hB)).mono ?_; rintro e w' ⟨rfl, rfl⟩) | (go_at_call 49; refine (cut_any _ _).mono ?_; rintro e w' ⟨rfl, rfl⟩) | (go_at_call 22; refine (flag_any _ _).mono ?_; rintro e w' ⟨rfl, rfl⟩))
  go_ret3
  exact ⟨ret3u (u64_xor a b hA.1 (Int.lt_of_lt_of_le hA.2 (by decide)) hB.1 (Int.lt_of_lt_of_le hB.2 (by decide))), rfl⟩

set_option maxRecDepth 100000 in
set_option maxHeartbeats 400000 in
theorem refbin_20 (a b : Int) (hA : Is a) (hB : Is b) (w : World) :
    Calls Tryd.prog 17 #[.int .i64 134, .int .u64 a, .int .u64 b, .int .i64 32] w fun e w' => e = .returned (.tuple #[.int .u64 (val 20 a b), .int .i64 0, .bool true]) ∧ w = w' := by
  have hb0 := hB.1
  have hk0 : 0 ≤ b % 32 := by omega
  have hk1 : b % 32 < 32 := by omega
  have ha0 := hA.1
  go_enter Tryd.func17, Tryd.ntmps17
  go_wp2_with (first | (go_at_call 48; refine (signed_any _ _ (by first | exact hA | exact hB)).mono ?_; rintro e w' ⟨rfl, rfl⟩) | (go_at_call 49; refine (cut_any _ _).mono ?_; rintro e w' ⟨rfl, rfl⟩) | (go_at_call 22; refine (flag_any _ _).mono ?_; rintro e w' ⟨rfl, rfl⟩))
  go_ret3
  exact ⟨ret3u (cut_wrap _), rfl⟩

set_option maxRecDepth 100000 in
set_option maxHeartbeats 400000 in
theorem refbin_21 (a b : Int) (hA : Is a) (hB : Is b) (w : World) :
    Calls Tryd.prog 17 #[.int .i64 135, .int .u64 a, .int .u64 b, .int .i64 32] w fun e w' => e = .returned (.tuple #[.int .u64 (val 21 a b), .int .i64 0, .bool true]) ∧ w = w' := by
  have hb0 := hB.1
  have hk0 : 0 ≤ b % 32 := by omega
  have hk1 : b % 32 < 32 := by omega
  have ha0 := hA.1
  go_enter Tryd.func17, Tryd.ntmps17
  go_wp2_with (first | (go_at_call 48; refine (signed_any _ _ (by first | exact hA | exact hB)).mono ?_; rintro e w' ⟨rfl, rfl⟩) | (go_at_call 49; refine (cut_any _ _).mono ?_; rintro e w' ⟨rfl, rfl⟩) | (go_at_call 22; refine (flag_any _ _).mono ?_; rintro e w' ⟨rfl, rfl⟩))
  go_ret3
  exact ⟨ret3u (cut_wrap _), rfl⟩

set_option maxRecDepth 100000 in
set_option maxHeartbeats 400000 in
theorem refbin_22 (a b : Int) (hA : Is a) (hB : Is b) (w : World) :
    Calls Tryd.prog 17 #[.int .i64 136, .int .u64 a, .int .u64 b, .int .i64 32] w fun e w' => e = .returned (.tuple #[.int .u64 (val 22 a b), .int .i64 0, .bool true]) ∧ w = w' := by
  have hb0 := hB.1
  have hk0 : 0 ≤ b % 32 := by omega
  have hk1 : b % 32 < 32 := by omega
  have ha0 := hA.1
  go_enter Tryd.func17, Tryd.ntmps17
  go_wp2_with (first | (go_at_call 48; refine (signed_any _ _ (by first | exact hA | exact hB)).mono ?_; rintro e w' ⟨rfl, rfl⟩) | (go_at_call 49; refine (cut_any _ _).mono ?_; rintro e w' ⟨rfl, rfl⟩) | (go_at_call 22; refine (flag_any _ _).mono ?_; rintro e w' ⟨rfl, rfl⟩))
  go_ret3
  exact ⟨rfl, rfl⟩

set_option maxRecDepth 100000 in
set_option maxHeartbeats 400000 in
theorem refbin_23_0 (a b : Int) (hA : Is a) (hB : Is b) (hk : b % 32 = 0) (w : World) :
    Calls Tryd.prog 17 #[.int .i64 137, .int .u64 a, .int .u64 b, .int .i64 32] w fun e w' => e = .returned (.tuple #[.int .u64 a, .int .i64 0, .bool true]) ∧ w = w' := by
  have hb0 := hB.1
  go_enter Tryd.func17, Tryd.ntmps17
  go_wp2_with (first | (go_at_call 48; refine (signed_any _ _ (by first | exact hA | exact hB)).mono ?_; rintro e w' ⟨rfl, rfl⟩) | (go_at_call 51; refine (turned_0 _ _).mono ?_; rintro e w' ⟨rfl, rfl⟩))
  go_ret3
  exact ⟨rfl, rfl⟩

set_option maxRecDepth 100000 in
set_option maxHeartbeats 400000 in
theorem refbin_23_1 (a b : Int) (hA : Is a) (hB : Is b) (hk : ¬ b % 32 = 0) (w : World) :
    Calls Tryd.prog 17 #[.int .i64 137, .int .u64 a, .int .u64 b, .int .i64 32] w fun e w' => e = .returned (.tuple #[.int .u64 (val 23 a b), .int .i64 0, .bool true]) ∧ w = w' := by
  have hb0 := hB.1
  have hk0 : 0 < b % 32 := by omega
  have hk1 : b % 32 < 32 := by omega
  clear hk
  go_enter Tryd.func17, Tryd.ntmps17
  go_wp2_with (first | (go_at_call 48; refine (signed_any _ _ (by first | exact hA | exact hB)).mono ?_; rintro e w' ⟨rfl, rfl⟩) | (go_at_call 51; refine (turned_any _ _ _ hA hk0 hk1).mono ?_; rintro e w' ⟨rfl, rfl⟩))
  go_ret3
  exact ⟨rfl, rfl⟩

theorem refbin_23 (a b : Int) (hA : Is a) (hB : Is b) (w : World) :
    Calls Tryd.prog 17 #[.int .i64 137, .int .u64 a, .int .u64 b, .int .i64 32] w fun e w' => e = .returned (.tuple #[.int .u64 (val 23 a b), .int .i64 0, .bool true]) ∧ w = w' := by
  by_cases hk : b % 32 = 0
  · have e : val 23 a b = a := by
      show rotl a (b % 32).toNat = a
      rw [show (b % 32).toNat = 0 by omega]
      exact rotl_0 hA.1 hA.2
    rw [e]
    exact refbin_23_0 a b hA hB hk w
  · exact refbin_23_1 a b hA hB hk w

set_option maxRecDepth 100000 in
set_option maxHeartbeats 400000 in
theorem refbin_24_0 (a b : Int) (hA : Is a) (hB : Is b) (hk : -(b % 32) % 32 = 0) (w : World) :
    Calls Tryd.prog 17 #[.int .i64 138, .int .u64 a, .int .u64 b, .int .i64 32] w fun e w' => e = .returned (.tuple #[.int .u64 a, .int .i64 0, .bool true]) ∧ w = w' := by
  have hb0 := hB.1
  go_enter Tryd.func17, Tryd.ntmps17
  go_wp2_with (first | (go_at_call 48; refine (signed_any _ _ (by first | exact hA | exact hB)).mono ?_; rintro e w' ⟨rfl, rfl⟩) | (go_at_call 51; refine (turned_0 _ _).mono ?_; rintro e w' ⟨rfl, rfl⟩))
  go_ret3
  exact ⟨rfl, rfl⟩

set_option maxRecDepth 100000 in
set_option maxHeartbeats 400000 in
theorem refbin_24_1 (a b : Int) (hA : Is a) (hB : Is b) (hk : ¬ -(b % 32) % 32 = 0) (w : World) :
    Calls Tryd.prog 17 #[.int .i64 138, .int .u64 a, .int .u64 b, .int .i64 32] w fun e w' => e = .returned (.tuple #[.int .u64 (val 24 a b), .int .i64 0, .bool true]) ∧ w = w' := by
  have hb0 := hB.1
  have hk0 : 0 < -(b % 32) % 32 := by omega
  have hk1 : -(b % 32) % 32 < 32 := by omega
  have HM := Lib.hid (show -(b % 32) % 32 = -b % 32 by omega)
  clear hk
  go_enter Tryd.func17, Tryd.ntmps17
  go_wp2_with (first | (go_at_call 48; refine (signed_any _ _ (by first | exact hA | exact hB)).mono ?_; rintro e w' ⟨rfl, rfl⟩) | (go_at_call 51; refine (turned_any _ _ _ hA hk0 hk1).mono ?_; rintro e w' ⟨rfl, rfl⟩))
  go_ret3
  exact ⟨ret3u (by rw [HM.out]; rfl), rfl⟩

theorem refbin_24 (a b : Int) (hA : Is a) (hB : Is b) (w : World) :
    Calls Tryd.prog 17 #[.int .i64 138, .int .u64 a, .int .u64 b, .int .i64 32] w fun e w' => e = .returned (.tuple #[.int .u64 (val 24 a b), .int .i64 0, .bool true]) ∧ w = w' := by
  by_cases hk : -(b % 32) % 32 = 0
  · have e : val 24 a b = a := by
      show rotl a (-b % 32).toNat = a
      rw [show (-b % 32).toNat = 0 by omega]
      exact rotl_0 hA.1 hA.2
    rw [e]
    exact refbin_24_0 a b hA hB hk w
  · exact refbin_24_1 a b hA hB hk w

set_option maxRecDepth 100000 in
set_option maxHeartbeats 400000 in
theorem refbin_none (op a b : Int) (hA : Is a) (hB : Is b) (h81 : (op == 81) = false) (h82 : (op == 82) = false) (h83 : (op == 83) = false) (h84 : (op == 84) = false) (h85 : (op == 85) = false) (h86 : (op == 86) = false) (h87 : (op == 87) = false) (h88 : (op == 88) = false) (h89 : (op == 89) = false) (h90 : (op == 90) = false) (h124 : (op == 124) = false) (h125 : (op == 125) = false) (h126 : (op == 126) = false) (h127 : (op == 127) = false) (h128 : (op == 128) = false) (h129 : (op == 129) = false) (h130 : (op == 130) = false) (h131 : (op == 131) = false) (h132 : (op == 132) = false) (h133 : (op == 133) = false) (h134 : (op == 134) = false) (h135 : (op == 135) = false) (h136 : (op == 136) = false) (h137 : (op == 137) = false) (h138 : (op == 138) = false) (w : World) :
    Calls Tryd.prog 17 #[.int .i64 op, .int .u64 a, .int .u64 b, .int .i64 32] w fun e w' => e = .returned (.tuple #[.int .u64 0, .int .i64 0, .bool false]) ∧ w = w' := by
  go_enter Tryd.func17, Tryd.ntmps17
  go_wp2_with (first | (go_at_call 48; refine (signed_any _ _ (by first | exact hA | exact hB)).mono ?_; rintro e w' ⟨rfl, rfl⟩))
  go_ret3
  exact ⟨rfl, rfl⟩

end Go.Proofs.YtbpgcndanlmdjaaDoor
