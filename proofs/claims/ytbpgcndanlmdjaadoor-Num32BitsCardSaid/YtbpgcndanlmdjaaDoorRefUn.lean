/-
  THE DOCUMENT'S OWN COUNTS (gangwayref3.un) OF NUMBERS OF 32 BITS: each loop ends at the number that counts. No condition.
-/
import Derived.Test.YtbpgcndanlmdjaaDoorUnAny
import Derived.Test.YtbpgcndanlmdjaaDoorRefAny
namespace Go.Proofs.YtbpgcndanlmdjaaDoor
open Go.RowKit
theorem ret2u {k : IntKind} {a b : Int} {x : Value} (h : a = b) : Ending.returned (.tuple #[.int k a, x]) = .returned (.tuple #[.int k b, x]) := by rw [h]
theorem bit_of {a : Int} (hA : Is a) (k : Nat) : bits .and .u64 (a / 2 ^ k) 1 = ((a.toNat / 2 ^ k % 2 : Nat) : Int) := by
  obtain ⟨n, rfl⟩ := Int.eq_ofNat_of_zero_le hA.1
  have e : ((n : Int) / 2 ^ k) = ((n / 2 ^ k : Nat) : Int) := by rw [Int.natCast_ediv, Int.natCast_pow]; rfl
  have h1 : n / 2 ^ k ≤ n := Nat.div_le_self _ _
  have h2 := hA.2
  rw [e, show (1 : Int) = ((1 : Nat) : Int) from rfl, u64_and_nat _ _ (by omega) (by decide), nat_mask1, Int.toNat_natCast]
theorem pow2s (k : Nat) : 2 ^ k * 2 = 2 ^ (k + 1) := rfl
theorem lz_end {a : Int} {k : Nat} (hk : k < 32) (h0 : a.toNat / 2 ^ (32 - k) = 0) (h1 : a.toNat / 2 ^ (31 - k) % 2 = 1) : (k : Int) = uval 1 a := by
  have e : a.toNat / 2 ^ (31 - k) = 1 := by
    have : a.toNat / 2 ^ (31 - k) / 2 = 0 := by
      rw [Nat.div_div_eq_div_mul, pow2s, show 31 - k + 1 = 32 - k by omega]
      exact h0
    omega
  have hb := bitLen_shift a.toNat (31 - k) (by omega)
  rw [e] at hb
  have h2 : bitLen 1 = 1 := by decide
  show (k : Int) = ((32 - bitLen a.toNat : Nat) : Int)
  omega
theorem lz_all {a : Int} (h0 : a.toNat / 2 ^ (32 - 32) = 0) : ((32 : Nat) : Int) = uval 1 a := by
  have e : a.toNat = 0 := by simpa using h0
  show _ = ((32 - bitLen a.toNat : Nat) : Int)
  rw [e]
  rfl
theorem lz_step {a : Int} {k : Nat} (hk : k < 32) (h0 : a.toNat / 2 ^ (32 - k) = 0) (h1 : a.toNat / 2 ^ (31 - k) % 2 = 0) : a.toNat / 2 ^ (32 - (k + 1)) = 0 := by
  have : a.toNat / 2 ^ (31 - k) / 2 = 0 := by
    rw [Nat.div_div_eq_div_mul, pow2s, show 31 - k + 1 = 32 - k by omega]
    exact h0
  rw [show 32 - (k + 1) = 31 - k by omega]
  omega
theorem tz_one {x m : Nat} (h : x % 2 = 1) : tzF (m + 1) x = 0 := by
  unfold tzF
  rw [if_pos h]
theorem tz_nought {x m : Nat} (h : x % 2 = 0) : tzF (m + 1) x = 1 + tzF m (x / 2) := by
  show (if x % 2 = 1 then 0 else 1 + tzF m (x / 2)) = _
  rw [if_neg (by omega)]
theorem tz_end {a : Int} {k : Nat} (hk : k < 32) (h : tzF 32 a.toNat = k + tzF (32 - k) (a.toNat / 2 ^ k)) (h1 : a.toNat / 2 ^ k % 2 = 1) : (k : Int) = uval 2 a := by
  rw [show 32 - k = (32 - k - 1) + 1 by omega, tz_one h1] at h
  show (k : Int) = ((tzF 32 a.toNat : Nat) : Int)
  omega
theorem tz_all {a : Int} (h : tzF 32 a.toNat = 32 + tzF (32 - 32) (a.toNat / 2 ^ 32)) : ((32 : Nat) : Int) = uval 2 a := by
  show _ = ((tzF 32 a.toNat : Nat) : Int)
  rw [h]
  rfl
theorem tz_step {a : Int} {k : Nat} (hk : k < 32) (h : tzF 32 a.toNat = k + tzF (32 - k) (a.toNat / 2 ^ k)) (h1 : a.toNat / 2 ^ k % 2 = 0) : tzF 32 a.toNat = (k + 1) + tzF (32 - (k + 1)) (a.toNat / 2 ^ (k + 1)) := by
  rw [show 32 - k = (32 - (k + 1)) + 1 by omega, tz_nought h1, Nat.div_div_eq_div_mul, pow2s] at h
  omega
theorem pc_step {a : Int} {k n : Nat} (hk : k < 32) (h : pcF 32 a.toNat = n + pcF (32 - k) (a.toNat / 2 ^ k)) : pcF 32 a.toNat = (n + a.toNat / 2 ^ k % 2) + pcF (32 - (k + 1)) (a.toNat / 2 ^ (k + 1)) := by
  rw [show 32 - k = (32 - (k + 1)) + 1 by omega, show pcF ((32 - (k + 1)) + 1) (a.toNat / 2 ^ k) = a.toNat / 2 ^ k % 2 + pcF (32 - (k + 1)) (a.toNat / 2 ^ k / 2) from rfl, Nat.div_div_eq_div_mul, pow2s] at h
  omega
theorem pc_all {a : Int} {n : Nat} (h : pcF 32 a.toNat = n + pcF (32 - 32) (a.toNat / 2 ^ 32)) : (n : Int) = uval 3 a := by
  show _ = ((pcF 32 a.toNat : Nat) : Int)
  rw [h]
  rfl
attribute [local irreducible] pcF tzF
set_option maxHeartbeats 400000 in
theorem refun_0 (a : Int) (w : World) : Calls Tryd.prog 13 #[.int .i64 80, .int .u64 a, .int .i64 32] w fun e w' => e = .returned (.tuple #[.int .u64 (uval 0 a), .bool true]) ∧ w = w' := by
  go_enter Tryd.func13, Tryd.ntmps13
  go_wp2_with (go_at_call 22; refine (flag_any _ _).mono ?_; rintro e w' ⟨rfl, rfl⟩)
  go_ret2
  exact ⟨ret2u (congrArg fl (by rw [Bool.eq_iff_iff]; simp)), rfl⟩
set_option maxRecDepth 100000 in
set_option maxHeartbeats 4000000 in
theorem refun_1 (a : Int) (w : World) (hA : Is a) : Calls Tryd.prog 13 #[.int .i64 121, .int .u64 a, .int .i64 32] w fun e w' => e = .returned (.tuple #[.int .u64 (uval 1 a), .bool true]) ∧ w = w' := by
  have a0 := hA.1
  have st : a.toNat / 2 ^ (32 - 0) = 0 := Nat.div_eq_of_lt (by have := hA.2; show a.toNat < 4294967296; omega)
  have HST := Lib.hid st
  clear st
  go_enter Tryd.func13, Tryd.ntmps13
  go_wp2
  go_loop [8, 9] (fun n i => ∃ (k : Nat) (j : Int), k ≤ 32 ∧ 31 - (k : Int) ≤ j ∧ j ≤ 31 - (k : Int) ∧ n = .int .u64 k ∧ i = .int .i64 j ∧ Hid (a.toNat / 2 ^ (32 - k) = 0)) (fun _ i => (intOf i + 1).toNat)
  case atStart => exact ⟨0, 31, by omega, by omega, by omega, rfl, rfl, HST⟩
  case round =>
    obtain ⟨k, j, hk, hj0, hj1, rfl, rfl, hz⟩ := hrel
    by_cases hkb : k < 32
    · have hb := bit_of hA j.toNat
      rw [show j.toNat = 31 - k by omega] at hb
      by_cases h1 : a.toNat / 2 ^ (31 - k) % 2 = 1
      · rw [h1, show 31 - k = j.toNat by omega] at hb
        have HE := Lib.hid (lz_end hkb hz.out h1)
        clear h1
        have hj2 : 0 ≤ j := by omega
        have hj3 : j < 32 := by omega
        go_wp2
        go_ret2
        exact ⟨ret2u HE.out, rfl⟩
      · have h2 : a.toNat / 2 ^ (31 - k) % 2 = 0 := by omega
        rw [h2, show 31 - k = j.toNat by omega] at hb
        have HE := Lib.hid (lz_step hkb hz.out h2)
        clear h1 h2 hz
        have hj2 : 0 ≤ j := by omega
        have hj3 : j < 32 := by omega
        go_wp2
        go_round
        case rel => exact ⟨k + 1, j - 1, by omega, by omega, by omega, by go_num, rfl, HE⟩
        case measure => simp [intOf]; omega
    · have hke : k = 32 := by omega
      subst hke
      have hj2 : j < 0 := by omega
      have HE := Lib.hid (lz_all hz.out)
      clear hz
      go_wp2
      go_ret2
      exact ⟨ret2u HE.out, rfl⟩
set_option maxRecDepth 100000 in
set_option maxHeartbeats 4000000 in
theorem refun_2 (a : Int) (w : World) (hA : Is a) : Calls Tryd.prog 13 #[.int .i64 122, .int .u64 a, .int .i64 32] w fun e w' => e = .returned (.tuple #[.int .u64 (uval 2 a), .bool true]) ∧ w = w' := by
  have a0 := hA.1
  have HST := Lib.hid (show tzF 32 a.toNat = 0 + tzF (32 - 0) (a.toNat / 2 ^ 0) by simp)
  go_enter Tryd.func13, Tryd.ntmps13
  go_wp2
  go_loop [8, 10] (fun n i => ∃ k : Nat, k ≤ 32 ∧ n = .int .u64 k ∧ i = .int .i64 k ∧ Hid (tzF 32 a.toNat = k + tzF (32 - k) (a.toNat / 2 ^ k))) (fun _ i => 32 - (intOf i).toNat)
  case atStart => exact ⟨0, by omega, rfl, rfl, HST⟩
  case round =>
    obtain ⟨k, hk, rfl, rfl, hz⟩ := hrel
    by_cases hkb : k < 32
    · have hb := bit_of hA k
      by_cases h1 : a.toNat / 2 ^ k % 2 = 1
      · rw [h1] at hb
        have HE := Lib.hid (tz_end hkb hz.out h1)
        clear h1
        go_wp2
        go_ret2
        exact ⟨ret2u HE.out, rfl⟩
      · have h2 : a.toNat / 2 ^ k % 2 = 0 := by omega
        rw [h2] at hb
        have HE := Lib.hid (tz_step hkb hz.out h2)
        clear h1 h2 hz
        go_wp2
        go_round
        case rel => exact ⟨k + 1, by omega, by go_num, by go_num, HE⟩
        case measure => simp [intOf]; omega
    · have hke : k = 32 := by omega
      subst hke
      have HE := Lib.hid (tz_all hz.out)
      clear hz
      go_wp2
      go_ret2
      exact ⟨ret2u HE.out, rfl⟩
set_option maxRecDepth 100000 in
set_option maxHeartbeats 4000000 in
theorem refun_3 (a : Int) (w : World) (hA : Is a) : Calls Tryd.prog 13 #[.int .i64 123, .int .u64 a, .int .i64 32] w fun e w' => e = .returned (.tuple #[.int .u64 (uval 3 a), .bool true]) ∧ w = w' := by
  have a0 := hA.1
  have HST := Lib.hid (show pcF 32 a.toNat = 0 + pcF (32 - 0) (a.toNat / 2 ^ 0) by simp)
  go_enter Tryd.func13, Tryd.ntmps13
  go_wp2
  go_loop [8, 11] (fun n i => ∃ k m : Nat, k ≤ 32 ∧ m ≤ k ∧ n = .int .u64 m ∧ i = .int .i64 k ∧ Hid (pcF 32 a.toNat = m + pcF (32 - k) (a.toNat / 2 ^ k))) (fun _ i => 32 - (intOf i).toNat)
  case atStart => exact ⟨0, 0, by omega, by omega, rfl, rfl, HST⟩
  case round =>
    obtain ⟨k, m, hk, hmk, rfl, rfl, hz⟩ := hrel
    by_cases hkb : k < 32
    · have hs := pc_step hkb hz.out
      by_cases h1 : a.toNat / 2 ^ k % 2 = 1
      · have hb : bits .and .u64 (a / 2 ^ k) 1 = 1 := by rw [bit_of hA k, h1]; rfl
        rw [h1] at hs
        have HE := Lib.hid hs
        clear h1 hz hs
        go_wp2
        go_round
        case rel => exact ⟨k + 1, m + 1, by omega, by omega, by go_num, by go_num, HE⟩
        case measure => simp [intOf]; omega
      · have h2 : a.toNat / 2 ^ k % 2 = 0 := by omega
        have hb : bits .and .u64 (a / 2 ^ k) 1 = 0 := by rw [bit_of hA k, h2]; rfl
        rw [h2] at hs
        have HE := Lib.hid hs
        clear h1 h2 hz hs
        go_wp2
        go_round
        case rel => exact ⟨k + 1, m + 0, by omega, by omega, by go_num, by go_num, HE⟩
        case measure => simp [intOf]; omega
    · have hke : k = 32 := by omega
      subst hke
      have HE := Lib.hid (pc_all hz.out)
      clear hz
      go_wp2
      go_ret2
      exact ⟨ret2u HE.out, rfl⟩
set_option maxHeartbeats 400000 in
theorem refun_none (op a : Int) (w : World) (h0 : (op == 80) = false) (h1 : (op == 121) = false) (h2 : (op == 122) = false) (h3 : (op == 123) = false) : Calls Tryd.prog 13 #[.int .i64 op, .int .u64 a, .int .i64 32] w fun e w' => e = .returned (.tuple #[.int .u64 0, .bool false]) ∧ w = w' := by
  go_enter Tryd.func13, Tryd.ntmps13
  go_wp2
  go_ret2
  exact ⟨rfl, rfl⟩
def UnSays (op a v : Int) (ok : Bool) : Prop := ∀ w, Calls Tryd.prog 13 #[.int .i64 op, .int .u64 a, .int .i64 32] w fun e w' => e = .returned (.tuple #[.int .u64 v, .bool ok]) ∧ w = w'

set_option maxHeartbeats 400000 in
theorem refun_of (op o a v : Int) (ok : Bool) (hA : Is a) (hV : Is v) (h1 : WideSays op o) (h2 : UnSays o a v ok) (w : World) :
    Calls Tryd.prog 7 #[.int .i64 op, .int .u32 a] w fun e w' => e = .returned (.tuple #[.int .u32 v, .bool ok]) ∧ w = w' := by
  have a0 := hA.1
  have a1 := hA.2
  have v0 := hV.1
  have v1 := hV.2
  go_enter Tryd.func7, Tryd.ntmps7
  go_wp2_with (first | (go_at_call 14; refine (h1 _).mono ?_; rintro e w' ⟨rfl, rfl⟩) | (go_at_call 13; refine (h2 _).mono ?_; rintro e w' ⟨rfl, rfl⟩))
  go_ret2
  exact ⟨rfl, rfl⟩
theorem is_uval (k : Nat) (a : Int) : Is (uval k a) := ⟨(uval_bd k a).1, by have := (uval_bd k a).2; omega⟩
theorem refun_any (op a : Int) (hA : Is a) (w : World) :
    Calls Tryd.prog 7 #[.int .i64 op, .int .u32 a] w fun e w' => e = .returned (.tuple #[.int .u32 (uv op a), .bool (uo op)]) ∧ w = w' := by
  by_cases n0 : op = 69
  · subst n0; exact refun_of _ 80 a _ true hA (is_uval 0 a) (fun w => wide_1 69 w (by decide) (by decide)) (fun w => refun_0 a w) w
  · by_cases n1 : op = 103
    · subst n1; exact refun_of _ 121 a _ true hA (is_uval 1 a) (fun w => wide_2 103 w (by decide) (by decide)) (fun w => refun_1 a w hA) w
    · by_cases n2 : op = 104
      · subst n2; exact refun_of _ 122 a _ true hA (is_uval 2 a) (fun w => wide_2 104 w (by decide) (by decide)) (fun w => refun_2 a w hA) w
      · by_cases n3 : op = 105
        · subst n3; exact refun_of _ 123 a _ true hA (is_uval 3 a) (fun w => wide_2 105 w (by decide) (by decide)) (fun w => refun_3 a w hA) w
        · have e : uplace op = none := by simp [uplace, n0, n1, n2, n3]
          rw [show uv op a = 0 by unfold uv; rw [e], show uo op = false by unfold uo; rw [e]; rfl]
          have z0 : Is 0 := ⟨by decide, by decide⟩
          have hn : ∀ o : Int, ¬ o = 80 → ¬ o = 121 → ¬ o = 122 → ¬ o = 123 → UnSays o a 0 false := fun o m0 m1 m2 m3 w => refun_none o a w (by simpa using m0) (by simpa using m1) (by simpa using m2) (by simpa using m3)
          by_cases c1 : op < 69
          · exact refun_of op 0 a 0 false hA z0 (fun w => wide_lo op w c1) (hn _ (by decide) (by decide) (by decide) (by decide)) w
          · by_cases c2 : op ≤ 79
            · exact refun_of op (op + 11) a 0 false hA z0 (fun w => wide_1 op w (by omega) c2) (hn _ (by omega) (by omega) (by omega) (by omega)) w
            · by_cases c3 : op < 103
              · exact refun_of op 0 a 0 false hA z0 (fun w => wide_mid op w (by omega) c3) (hn _ (by decide) (by decide) (by decide) (by decide)) w
              · by_cases c4 : op ≤ 120
                · exact refun_of op (op + 18) a 0 false hA z0 (fun w => wide_2 op w (by omega) c4) (hn _ (by omega) (by omega) (by omega) (by omega)) w
                · exact refun_of op 0 a 0 false hA z0 (fun w => wide_hi op w (by omega)) (hn _ (by decide) (by decide) (by decide) (by decide)) w

end Go.Proofs.YtbpgcndanlmdjaaDoor
