/-
  HOW MANY NOUGHTS AND ONES: Go's math/bits over this program, and num32's own functions over it. Condition (told by the row): the library's table reads as its text lays it.
-/
import Derived.Test.YtbpgcndanlmdjaaDoorBin
import Derived.Test.YtbpgcndanlmdjaaDoorUnNum
import Derived.Test.YtbpgcndanlmdjaaDoorMaps
import Derived.Deep.QuietTactic
import Derived.BigQuiet
namespace Go.Proofs.YtbpgcndanlmdjaaDoor
open Go.RowKit
/-- the table of Go's library, as its text lays it. -/
def Tab (w : World) : Prop := 0 < w.heap.size ∧ ∀ t : Nat, t < 32 → ∀ i : Nat, deTab[i]? = some t → w.cell? ⟨0, i, none⟩ = some (.int .u8 ((t : Nat) : Int))
theorem Tab.below {w w' : World} {B : Nat} (h : Tab w) (hB : 0 < B) (hb : Below B w w') (hs : w.heap.size ≤ w'.heap.size) : Tab w' :=
  ⟨Nat.lt_of_lt_of_le h.1 hs, fun t ht i hi => (hb.cell (p := ⟨0, i, none⟩) hB).trans (h.2 t ht i hi)⟩
theorem len_0 {a x : Int} (hx : x.toNat = a.toNat) (h8 : x.toNat < 256) : wrap64 (wrap64 ((bitLen x.toNat : Nat) : Int)) = ((bitLen a.toNat : Nat) : Int) := by
  have := bitLen_le8 _ h8
  rw [hx] at this ⊢
  unfold wrap64
  omega
theorem len_s (s : Nat) (hs : s ≤ 56) {a x S : Int} (hS : S = (s : Int)) (hx : x.toNat = a.toNat / 2 ^ s) (h0 : x.toNat ≠ 0) (h8 : x.toNat < 256) : wrap64 (S + wrap64 ((bitLen x.toNat : Nat) : Int)) = ((bitLen a.toNat : Nat) : Int) := by
  have := bitLen_le8 _ h8
  have e := bitLen_shift a.toNat s (by rw [← hx]; exact h0)
  rw [e, ← hx, hS]
  unfold wrap64
  omega
set_option maxRecDepth 100000 in
set_option maxHeartbeats 4000000 in
theorem len_any (a : Int) (w : World) (hA : Is a) : Calls Tryd.prog 57 #[.int .u32 a] w fun e w' => e = .returned (.int .i64 ((bitLen a.toNat : Nat) : Int)) ∧ w = w' := by
  have h0 := hA.1
  go_enter Tryd.func57, Tryd.ntmps57
  go_wp2
  all_goals
    go_ret
    refine ⟨ret_int ?_, rfl⟩
    rw [len8tab_get]
    have h1 := hA.2
    first
      | exact len_0 (by omega) (by omega)
      | exact len_s 8 (by decide) (S := 8) rfl (by omega) (by omega) (by omega)
      | exact len_s 16 (by decide) (S := 16) rfl (by omega) (by omega) (by omega)
      | exact len_s 24 (by decide) (S := 24) rfl (by omega) (by omega) (by omega)
set_option maxHeartbeats 400000 in
theorem lz_any (a : Int) (w : World) (hA : Is a) : Calls Tryd.prog 53 #[.int .u32 a] w fun e w' => e = .returned (.int .i64 (uval 1 a)) ∧ w = w' := by
  have hl : bitLen a.toNat ≤ 32 := bitLen_le (by have := hA.1; have := hA.2; omega)
  have HE := Lib.hid (show 32 - ((bitLen a.toNat : Nat) : Int) = uval 1 a by show _ = ((32 - bitLen a.toNat : Nat) : Int); omega)
  have hl' : ((bitLen a.toNat : Nat) : Int) ≤ 32 := by omega
  have hl0 : (0 : Int) ≤ ((bitLen a.toNat : Nat) : Int) := by omega
  obtain ⟨n, hn⟩ : ∃ n, n = ((bitLen a.toNat : Nat) : Int) := ⟨_, rfl⟩
  have c := len_any a
  rw [← hn] at c hl' hl0 HE
  have HC := Lib.hid c
  clear c hn
  go_enter Tryd.func53, Tryd.ntmps53
  go_wp2_with (go_at_call 57; refine (HC.out _ hA).mono ?_; rintro e w' ⟨rfl, rfl⟩)
  go_ret
  exact ⟨ret_int HE.out, rfl⟩
set_option maxRecDepth 100000 in
set_option maxHeartbeats 4000000 in
theorem tz_zero (w : World) : Calls Tryd.prog 54 #[.int .u32 0] w fun e w' => e = .returned (.int .i64 (uval 2 0)) ∧ w = w' := by
  have HE := Lib.hid (show ((32 : Nat) : Int) = uval 2 0 by show _ = ((tzF 32 0 : Nat) : Int); rw [tzF_zero])
  go_enter Tryd.func54, Tryd.ntmps54
  go_wp2
  go_ret
  exact ⟨ret_int HE.out, rfl⟩
theorem neg_and {a : Int} (hA : Is a) (h : ¬ a = 0) : bits .and .u32 a (-a % 4294967296) = ((2 ^ tzF 32 a.toNat : Nat) : Int) := by
  obtain ⟨h0, h1⟩ := hA
  rw [u32_and _ _ h0 h1 (by omega) (by omega), show (-a % 4294967296).toNat = 4294967296 - a.toNat by omega, and_neg (by omega) (by omega)]
set_option maxRecDepth 100000 in
set_option maxHeartbeats 4000000 in
theorem tz_some (a : Int) (w : World) (hA : Is a) (h : ¬ a = 0) (hT : Tab w) : Calls Tryd.prog 54 #[.int .u32 a] w fun e w' => e = .returned (.int .i64 (uval 2 a)) ∧ w = w' := by
  have hz : (a == 0) = false := by simpa using h
  have h0 := hA.1
  obtain ⟨m, _, ht⟩ := tzF_odd 32 a.toNat (by omega) (by have := hA.2; omega)
  have he := neg_and hA h
  have hg := de_get (tzF 32 a.toNat) ht
  obtain ⟨q, hq0⟩ : ∃ q : Nat, q = 2 ^ tzF 32 a.toNat := ⟨_, rfl⟩
  rw [← hq0] at he hg
  obtain ⟨p, hp⟩ : ∃ p : Int, (q : Int) = p := ⟨_, rfl⟩
  have hq : (p * 125613361 % 4294967296 / 134217728).toNat = q * 125613361 % 4294967296 / 2 ^ 27 := by
    rw [← hp, show (q : Int) * 125613361 % 4294967296 / 134217728 = ((q * 125613361 % 4294967296 / 134217728 : Nat) : Int) by rw [Int.natCast_ediv, Int.natCast_emod, Int.natCast_mul]; rfl, Int.toNat_natCast]
  have hcell := hT.2 _ ht _ hg
  rw [← hq] at hcell
  rw [hp] at he
  have hp0 : 0 ≤ p := by rw [← hp]; exact Int.natCast_nonneg _
  have HU := Lib.hid (show ((tzF 32 a.toNat : Nat) : Int) = uval 2 a from rfl)
  have ht' : ((tzF 32 a.toNat : Nat) : Int) < 32 := by omega
  have ht0 : (0 : Int) ≤ ((tzF 32 a.toNat : Nat) : Int) := by omega
  obtain ⟨t, hn⟩ : ∃ t, t = ((tzF 32 a.toNat : Nat) : Int) := ⟨_, rfl⟩
  rw [← hn] at HU hcell ht' ht0
  clear hp hq hg ht hn h hq0
  go_enter Tryd.func54, Tryd.ntmps54
  go_wp2
  go_ret
  exact ⟨ret_int HU.out, rfl⟩

set_option maxRecDepth 1000000 in
theorem pop8tab_get (i : Nat) (h : i < (⟨#[0, 1, 1, 2, 1, 2, 2, 3, 1, 2, 2, 3, 2, 3, 3, 4, 1, 2, 2, 3, 2, 3, 3, 4, 2, 3, 3, 4, 3, 4, 4, 5, 1, 2, 2, 3, 2, 3, 3, 4, 2, 3, 3, 4, 3, 4, 4, 5, 2, 3, 3, 4, 3, 4, 4, 5, 3, 4, 4, 5, 4, 5, 5, 6, 1, 2, 2, 3, 2, 3, 3, 4, 2, 3, 3, 4, 3, 4, 4, 5, 2, 3, 3, 4, 3, 4, 4, 5, 3, 4, 4, 5, 4, 5, 5, 6, 2, 3, 3, 4, 3, 4, 4, 5, 3, 4, 4, 5, 4, 5, 5, 6, 3, 4, 4, 5, 4, 5, 5, 6, 4, 5, 5, 6, 5, 6, 6, 7, 1, 2, 2, 3, 2, 3, 3, 4, 2, 3, 3, 4, 3, 4, 4, 5, 2, 3, 3, 4, 3, 4, 4, 5, 3, 4, 4, 5, 4, 5, 5, 6, 2, 3, 3, 4, 3, 4, 4, 5, 3, 4, 4, 5, 4, 5, 5, 6, 3, 4, 4, 5, 4, 5, 5, 6, 4, 5, 5, 6, 5, 6, 6, 7, 2, 3, 3, 4, 3, 4, 4, 5, 3, 4, 4, 5, 4, 5, 5, 6, 3, 4, 4, 5, 4, 5, 5, 6, 4, 5, 5, 6, 5, 6, 6, 7, 3, 4, 4, 5, 4, 5, 5, 6, 4, 5, 5, 6, 5, 6, 6, 7, 4, 5, 5, 6, 5, 6, 6, 7, 5, 6, 6, 7, 6, 7, 7, 8]⟩ : ByteArray).size) : ((⟨#[0, 1, 1, 2, 1, 2, 2, 3, 1, 2, 2, 3, 2, 3, 3, 4, 1, 2, 2, 3, 2, 3, 3, 4, 2, 3, 3, 4, 3, 4, 4, 5, 1, 2, 2, 3, 2, 3, 3, 4, 2, 3, 3, 4, 3, 4, 4, 5, 2, 3, 3, 4, 3, 4, 4, 5, 3, 4, 4, 5, 4, 5, 5, 6, 1, 2, 2, 3, 2, 3, 3, 4, 2, 3, 3, 4, 3, 4, 4, 5, 2, 3, 3, 4, 3, 4, 4, 5, 3, 4, 4, 5, 4, 5, 5, 6, 2, 3, 3, 4, 3, 4, 4, 5, 3, 4, 4, 5, 4, 5, 5, 6, 3, 4, 4, 5, 4, 5, 5, 6, 4, 5, 5, 6, 5, 6, 6, 7, 1, 2, 2, 3, 2, 3, 3, 4, 2, 3, 3, 4, 3, 4, 4, 5, 2, 3, 3, 4, 3, 4, 4, 5, 3, 4, 4, 5, 4, 5, 5, 6, 2, 3, 3, 4, 3, 4, 4, 5, 3, 4, 4, 5, 4, 5, 5, 6, 3, 4, 4, 5, 4, 5, 5, 6, 4, 5, 5, 6, 5, 6, 6, 7, 2, 3, 3, 4, 3, 4, 4, 5, 3, 4, 4, 5, 4, 5, 5, 6, 3, 4, 4, 5, 4, 5, 5, 6, 4, 5, 5, 6, 5, 6, 6, 7, 3, 4, 4, 5, 4, 5, 5, 6, 4, 5, 5, 6, 5, 6, 6, 7, 4, 5, 5, 6, 5, 6, 6, 7, 5, 6, 6, 7, 6, 7, 7, 8]⟩ : ByteArray)[i]'h).toNat = pcF 8 i := by
  have all : ∀ j : Fin 256, ((⟨#[0, 1, 1, 2, 1, 2, 2, 3, 1, 2, 2, 3, 2, 3, 3, 4, 1, 2, 2, 3, 2, 3, 3, 4, 2, 3, 3, 4, 3, 4, 4, 5, 1, 2, 2, 3, 2, 3, 3, 4, 2, 3, 3, 4, 3, 4, 4, 5, 2, 3, 3, 4, 3, 4, 4, 5, 3, 4, 4, 5, 4, 5, 5, 6, 1, 2, 2, 3, 2, 3, 3, 4, 2, 3, 3, 4, 3, 4, 4, 5, 2, 3, 3, 4, 3, 4, 4, 5, 3, 4, 4, 5, 4, 5, 5, 6, 2, 3, 3, 4, 3, 4, 4, 5, 3, 4, 4, 5, 4, 5, 5, 6, 3, 4, 4, 5, 4, 5, 5, 6, 4, 5, 5, 6, 5, 6, 6, 7, 1, 2, 2, 3, 2, 3, 3, 4, 2, 3, 3, 4, 3, 4, 4, 5, 2, 3, 3, 4, 3, 4, 4, 5, 3, 4, 4, 5, 4, 5, 5, 6, 2, 3, 3, 4, 3, 4, 4, 5, 3, 4, 4, 5, 4, 5, 5, 6, 3, 4, 4, 5, 4, 5, 5, 6, 4, 5, 5, 6, 5, 6, 6, 7, 2, 3, 3, 4, 3, 4, 4, 5, 3, 4, 4, 5, 4, 5, 5, 6, 3, 4, 4, 5, 4, 5, 5, 6, 4, 5, 5, 6, 5, 6, 6, 7, 3, 4, 4, 5, 4, 5, 5, 6, 4, 5, 5, 6, 5, 6, 6, 7, 4, 5, 5, 6, 5, 6, 6, 7, 5, 6, 6, 7, 6, 7, 7, 8]⟩ : ByteArray)[j.val]'j.isLt).toNat = pcF 8 j.val := by decide +kernel
  exact all ⟨i, h⟩
theorem pc_sum {a : Int} (hA : Is a) : ((pcF 8 (a / 16777216).toNat : Nat) + (pcF 8 (a / 65536 % 256).toNat : Nat) + (pcF 8 (a / 256 % 256).toNat : Nat) + (pcF 8 (a % 256).toNat : Nat) : Int) % 256 = uval 3 a := by
  obtain ⟨h0, h1⟩ := hA
  show _ = ((pcF 32 a.toNat : Nat) : Int)
  have b1 := pcF_le 8 (a / 16777216).toNat
  have b2 := pcF_le 8 (a / 65536 % 256).toNat
  have b3 := pcF_le 8 (a / 256 % 256).toNat
  have b4 := pcF_le 8 (a % 256).toNat
  have s1 := pcF_add 8 24 a.toNat
  have s2 := pcF_add 8 16 (a.toNat / 2 ^ 8)
  have s3 := pcF_add 8 8 (a.toNat / 2 ^ 8 / 2 ^ 8)
  have m1 := pcF_mod 8 a.toNat
  have m2 := pcF_mod 8 (a.toNat / 2 ^ 8)
  have m3 := pcF_mod 8 (a.toNat / 2 ^ 8 / 2 ^ 8)
  have e1 : (a / 16777216).toNat = a.toNat / 2 ^ 8 / 2 ^ 8 / 2 ^ 8 := by omega
  have e2 : (a / 65536 % 256).toNat = a.toNat / 2 ^ 8 / 2 ^ 8 % 2 ^ 8 := by omega
  have e3 : (a / 256 % 256).toNat = a.toNat / 2 ^ 8 % 2 ^ 8 := by omega
  have e4 : (a % 256).toNat = a.toNat % 2 ^ 8 := by omega
  rw [e1] at b1 ⊢
  rw [e2, m3] at b2 ⊢
  rw [e3, m2] at b3 ⊢
  rw [e4, m1] at b4 ⊢
  rw [show (8 + 24 : Nat) = 32 from rfl] at s1
  rw [show (8 + 16 : Nat) = 24 from rfl] at s2
  rw [show (8 + 8 : Nat) = 16 from rfl] at s3
  omega
theorem mask8 {x : Int} (h0 : 0 ≤ x) (h1 : x < 4294967296) : bits .and .u32 x 255 = x % 256 := by
  rw [u32_and _ _ h0 h1 (by decide) (by decide)]
  show ((x.toNat &&& 255 : Nat) : Int) = _
  rw [nat_mask8]
  omega
set_option maxRecDepth 100000 in
set_option maxHeartbeats 4000000 in
theorem oc_any (a : Int) (w : World) (hA : Is a) : Calls Tryd.prog 55 #[.int .u32 a] w fun e w' => e = .returned (.int .i64 (uval 3 a)) ∧ ∃ n, w' = w.drewN n := by
  have h0 := hA.1
  have h1 : 0 ≤ a / 16777216 ∧ a / 16777216 < 256 := by have := hA.2; omega
  have e2 := mask8 (x := a / 65536) (by omega) (by have := hA.2; omega)
  have e3 := mask8 (x := a / 256) (by omega) (by have := hA.2; omega)
  have e4 := mask8 (x := a) (by omega) (by have := hA.2; omega)
  have hs := pc_sum hA
  obtain ⟨q2, hq2⟩ : ∃ q, a / 65536 % 256 = q := ⟨_, rfl⟩
  obtain ⟨q3, hq3⟩ : ∃ q, a / 256 % 256 = q := ⟨_, rfl⟩
  obtain ⟨q4, hq4⟩ : ∃ q, a % 256 = q := ⟨_, rfl⟩
  have b2 : 0 ≤ q2 ∧ q2 < 256 := by omega
  have b3 : 0 ≤ q3 ∧ q3 < 256 := by omega
  have b4 : 0 ≤ q4 ∧ q4 < 256 := by omega
  rw [hq2, hq3, hq4] at hs
  rw [hq2] at e2
  rw [hq3] at e3
  rw [hq4] at e4
  have HS := Lib.hid hs
  clear hs hq2 hq3 hq4
  go_enter Tryd.func55, Tryd.ntmps55
  go_wp2
  go_quiet (fail)
  go_wp2
  go_ret
  refine ⟨ret_int ?_, _, rfl⟩
  rw [pop8tab_get, pop8tab_get, pop8tab_get, pop8tab_get]
  exact HS.out

end Go.Proofs.YtbpgcndanlmdjaaDoor
