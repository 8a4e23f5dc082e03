/-
  PROVED: 'gangwaylaw3.Num32Bits' answers true at every list of pairs and leaves it as it was (as many bits as are 1 in a number and in its opposite are 32; what counts noughts is told by shifting). Condition, by the row: the library's table reads as its text lays it; the card ties it.
-/
import Derived.Test.YtbpgcndanlmdjaaDoorWords
import Derived.Test.YtbpgcndanlmdjaaDoorRefUn
import Derived.Test.YtbpgcndanlmdjaaDoorCards
import Derived.Test.YtbpgcndanlmdjaaDoorTie
import Derived.LaidMore
import Derived.Lib.LaidTab
import Derived.Stop.Joined
import Derived.SevenTiedAt
import Derived.Handed
import Derived.LaidByTextLater
namespace Go.Proofs.YtbpgcndanlmdjaaDoor.lawBits
open Go.ChangeShapes Go.WideShapes Go.ChangeAt Go.RowKit

set_option maxRecDepth 100000 in
set_option maxHeartbeats 400000 in
theorem walk_none (a : Option Addr) (cap : Nat) (w : World) : Calls Tryd.prog 5 #[.slice a 0 cap] w fun r w' => r = .returned (.bool true) ∧ Below w.heap.size w w' := by
  go_enter Tryd.func5, Tryd.ntmps5
  go_wp2
  refine wp_loop_rounds 1 ?_; rw [rounds_succ]
  go_wp2_with (go_at_call 9; refine (wakes_any w).mono ?_; rintro e w' ⟨rfl, hb⟩)
  go_ret
  exact ⟨rfl, by assumption⟩

/-! plain: what shifting tells -/
theorem pc_compl (n : Nat) : ∀ a, a < 2 ^ n → pcF n a + pcF n (2 ^ n - 1 - a) = n := by
  induction n with
  | zero => intro a _; rfl
  | succ n ih =>
    intro a h
    have e2 : 2 ^ (n + 1) = 2 * 2 ^ n := by rw [Nat.pow_succ, Nat.mul_comm]
    rw [e2] at h ⊢
    show a % 2 + pcF n (a / 2) + ((2 * 2 ^ n - 1 - a) % 2 + pcF n ((2 * 2 ^ n - 1 - a) / 2)) = n + 1
    have i := ih (a / 2) (by omega)
    rw [show (2 * 2 ^ n - 1 - a) / 2 = 2 ^ n - 1 - a / 2 by omega]
    omega
theorem ones_opp {a c : Int} (hA : Is a) (hc : c = 4294967295 - a) : uval 3 a + uval 3 c = 32 := by
  obtain ⟨h0, h1⟩ := hA
  subst hc
  have h := pc_compl 32 a.toNat (by show a.toNat < 4294967296; omega)
  rw [show (2 ^ 32 - 1 - a.toNat : Nat) = (4294967295 - a).toNat by show (4294967296 : Nat) - 1 - a.toNat = _; omega] at h
  show ((pcF 32 a.toNat : Nat) : Int) + ((pcF 32 (4294967295 - a).toNat : Nat) : Int) = 32
  omega
theorem zero_tells : uval 1 0 = 32 ∧ uval 2 0 = 32 ∧ uval 0 0 = 1 := ⟨by decide, by show ((tzF 32 0 : Nat) : Int) = 32; rw [tzF_zero]; rfl, by decide⟩
theorem lead_tells {a : Int} (hA : Is a) (hz : ¬ a = 0) : (a * 2 ^ (uval 1 a).toNat % 4294967296) / 2147483648 = 1 ∧ a / 2 ^ (32 - uval 1 a).toNat = 0 := by
  obtain ⟨n, rfl⟩ := Int.eq_ofNat_of_zero_le hA.1
  have h1 : n < 4294967296 := by have := hA.2; omega
  have hL := bitLen_le h1
  obtain ⟨s1, s2⟩ := bitLen_spec n
  have s2 := s2 (by omega)
  have hL1 : 1 ≤ bitLen n := by
    rcases Nat.eq_zero_or_pos (bitLen n) with h | h
    · rw [h] at s1; simp at s1; omega
    · exact h
  have e : uval 1 (n : Int) = ((32 - bitLen n : Nat) : Int) := rfl
  rw [e]
  rw [show (32 - ((32 - bitLen n : Nat) : Int)).toNat = bitLen n by omega, Int.toNat_natCast]
  obtain ⟨L, hLd⟩ : ∃ L, L = bitLen n := ⟨_, rfl⟩
  rw [← hLd] at hL s1 s2 hL1 ⊢
  have p1 : 2 ^ L * 2 ^ (32 - L) = (4294967296 : Nat) := by rw [← Nat.pow_add, show L + (32 - L) = 32 by omega]
  have p2 : 2 ^ (L - 1) * 2 ^ (32 - L) = (2147483648 : Nat) := by rw [← Nat.pow_add, show L - 1 + (32 - L) = 31 by omega]
  have u1 : n * 2 ^ (32 - L) < 4294967296 := by rw [← p1]; exact Nat.mul_lt_mul_of_pos_right s1 (Nat.pow_pos (by decide))
  have u2 : 2147483648 ≤ n * 2 ^ (32 - L) := by rw [← p2]; exact Nat.mul_le_mul_right _ s2
  constructor
  · rw [show ((n : Int) * 2 ^ (32 - L)) = ((n * 2 ^ (32 - L) : Nat) : Int) by rw [Int.natCast_mul, Int.natCast_pow]; rfl]
    omega
  · rw [show ((n : Int) / 2 ^ L) = ((n / 2 ^ L : Nat) : Int) by rw [Int.natCast_ediv, Int.natCast_pow]; rfl, Nat.div_eq_of_lt s1]
    rfl
theorem trail_tells {a : Int} (hA : Is a) (hz : ¬ a = 0) : bits .and .u32 (a / 2 ^ (uval 2 a).toNat) 1 = 1 ∧ a * 2 ^ (32 - uval 2 a).toNat % 4294967296 = 0 := by
  obtain ⟨n, rfl⟩ := Int.eq_ofNat_of_zero_le hA.1
  have h1 : n < 4294967296 := by have := hA.2; omega
  obtain ⟨m, hm, ht⟩ := tzF_odd 32 n (by omega) h1
  have e : uval 2 (n : Int) = ((tzF 32 n : Nat) : Int) := rfl
  rw [e]
  rw [show (32 - ((tzF 32 n : Nat) : Int)).toNat = 32 - tzF 32 n by omega, Int.toNat_natCast]
  obtain ⟨t, htd⟩ : ∃ t, t = tzF 32 n := ⟨_, rfl⟩
  rw [← htd] at hm ht ⊢
  have hd : n / 2 ^ t = 2 * m + 1 := by rw [hm, Nat.mul_div_cancel_left _ (Nat.pow_pos (by decide))]
  have p1 : 2 ^ t * 2 ^ (32 - t) = (4294967296 : Nat) := by rw [← Nat.pow_add, show t + (32 - t) = 32 by omega]
  have hle : n / 2 ^ t ≤ n := Nat.div_le_self _ _
  constructor
  · rw [show ((n : Int) / 2 ^ t) = ((n / 2 ^ t : Nat) : Int) by rw [Int.natCast_ediv, Int.natCast_pow]; rfl, show (1 : Int) = ((1 : Nat) : Int) from rfl, u32_and_nat _ _ (by omega) (by decide), nat_mask1, hd]
    omega
  · have e3 : n * 2 ^ (32 - t) = 4294967296 * (2 * m + 1) := by
      rw [← p1]
      conv => lhs; rw [hm]
      rw [Nat.mul_right_comm]
    rw [show ((n : Int) * 2 ^ (32 - t)) = ((n * 2 ^ (32 - t) : Nat) : Int) by rw [Int.natCast_mul, Int.natCast_pow]; rfl, e3]
    omega
theorem not_nat {x : Nat} (h : x < 4294967296) : 4294967295 ^^^ x = 4294967295 - x := by
  apply Nat.eq_of_testBit_eq
  intro i
  have e1 : (4294967295 : Nat).testBit i = decide (i < 32) := Nat.testBit_two_pow_sub_one 32 i
  have e2 : (4294967295 - x : Nat).testBit i = (decide (i < 32) && !x.testBit i) := by
    rw [show 4294967295 - x = 2 ^ 32 - (x + 1) by show _ = 4294967296 - (x + 1); omega]
    exact Nat.testBit_two_pow_sub_succ (n := 32) (by exact h) i
  rw [Nat.testBit_xor, e1, e2]
  by_cases hi : i < 32
  · simp [hi]
  · have e3 : x.testBit i = false := Nat.testBit_lt_two_pow (Nat.lt_of_lt_of_le (show x < 2 ^ 32 from h) (Nat.pow_le_pow_right (by decide) (by omega)))
    simp [hi, e3]
theorem not_eq {x : Int} (hA : Is x) : bits .xor .u32 4294967295 x = 4294967295 - x := by
  obtain ⟨h0, h1⟩ := hA
  rw [u32_xor _ _ (by decide) (by decide) h0 h1, show (4294967295 : Int).toNat = 4294967295 from rfl, not_nat (by omega)]
  omega
theorem is_0 (a v : Int) (hv : Hid (uval 0 a = v)) (w : World) (hA : Is a) (hT : Tab w) : Calls Tryd.prog 6 #[.int .i64 69, .int .u32 a] w fun e w' => e = .returned (.tuple #[.int .u32 v, .int .i64 0]) ∧ Below w.heap.size w w' := by
  rw [← hv.out]; exact unat_0 a w hA hT
theorem is_1 (a v : Int) (hv : Hid (uval 1 a = v)) (w : World) (hA : Is a) (hT : Tab w) : Calls Tryd.prog 6 #[.int .i64 103, .int .u32 a] w fun e w' => e = .returned (.tuple #[.int .u32 v, .int .i64 0]) ∧ Below w.heap.size w w' := by
  rw [← hv.out]; exact unat_1 a w hA hT
theorem is_2 (a v : Int) (hv : Hid (uval 2 a = v)) (w : World) (hA : Is a) (hT : Tab w) : Calls Tryd.prog 6 #[.int .i64 104, .int .u32 a] w fun e w' => e = .returned (.tuple #[.int .u32 v, .int .i64 0]) ∧ Below w.heap.size w w' := by
  rw [← hv.out]; exact unat_2 a w hA hT
theorem is_3 (a v : Int) (hv : Hid (uval 3 a = v)) (w : World) (hA : Is a) (hT : Tab w) : Calls Tryd.prog 6 #[.int .i64 105, .int .u32 a] w fun e w' => e = .returned (.tuple #[.int .u32 v, .int .i64 0]) ∧ Below w.heap.size w w' := by
  rw [← hv.out]; exact unat_3 a w hA hT
theorem St.tab {w W : World} (h : Below w.heap.size w W) (hT : Tab w) : Tab W := hT.below hT.1 h h.size
set_option maxRecDepth 100000 in
set_option maxHeartbeats 4000000 in
theorem walk (b off len cap : Nat) (X Y O : Nat → Int) (w : World) (h : Twos w b off len X Y O) (hT : Tab w) : Calls Tryd.prog 5 #[.slice (some ⟨b, off, none⟩) len cap] w fun r w' => r = .returned (.bool true) ∧ Below w.heap.size w w' := by
  obtain ⟨hbs, hlen, hc⟩ := h
  have HT := Lib.hid hT
  clear hT
  go_enter Tryd.func5, Tryd.ntmps5
  go_wp2
  go_loopw [3] (fun i wr => ∃ k : Nat, k ≤ len ∧ k ≤ 30 ∧ i = .int .i64 k ∧ Below w.heap.size w wr) (fun i _ => 30 - (intOf i).toNat)
  case atStart => exact ⟨0, by omega, by omega, rfl, Below.refl _ _⟩
  case round =>
    obtain ⟨k, hk, hk30, rfl, hb⟩ := hrel
    have HB := Lib.hid hb
    by_cases hlt : k < len ∧ k < 30
    · obtain ⟨hl, h30⟩ := hlt
      obtain ⟨ca, cb, co, ia, ib⟩ := hc k hl
      have ca' := (hb.cell (p := ⟨b, off + k * 3, none⟩) hbs).trans ca
      have hk0 : (0 : Int) ≤ (k : Int) := by omega
      have hkl : (k : Int) < (len : Int) := by omega
      have h30b : decide ((k : Int) < 30) = true := by simp; omega
      clear hc hb ca cb co ib
      obtain ⟨x, hx⟩ : ∃ x, X k = x := ⟨_, rfl⟩
      rw [hx] at ca' ia
      clear hx
      have x0 := ia.1
      have x1 := ia.2
      have hnot : bits .xor .u32 (IntKind.max .u32) x = 4294967295 - x := not_eq ia
      have i2 : Is (4294967295 - x) := ⟨by omega, by omega⟩
      obtain ⟨n, hn⟩ : ∃ n, uval 3 x = n := ⟨_, rfl⟩
      obtain ⟨m, hm⟩ : ∃ m, uval 3 (4294967295 - x) = m := ⟨_, rfl⟩
      obtain ⟨lz, hh⟩ : ∃ lz, uval 1 x = lz := ⟨_, rfl⟩
      obtain ⟨tz, ht⟩ : ∃ tz, uval 2 x = tz := ⟨_, rfl⟩
      obtain ⟨oz, ho⟩ : ∃ oz, uval 0 x = oz := ⟨_, rfl⟩
      have e1 := ones_opp ia rfl
      rw [hn, hm] at e1
      have bn := uval_bd 3 x
      have bm := uval_bd 3 (4294967295 - x)
      have bh := uval_bd 1 x
      have bt := uval_bd 2 x
      rw [hn] at bn
      rw [hm] at bm
      rw [hh] at bh
      rw [ht] at bt
      obtain ⟨n0, n1⟩ := bn
      obtain ⟨m0, m1⟩ := bm
      obtain ⟨h0, h1⟩ := bh
      obtain ⟨t0, t1⟩ := bt
      have HN := Lib.hid hn
      have HM := Lib.hid hm
      have HH := Lib.hid hh
      have HTt := Lib.hid ht
      have HO := Lib.hid ho
      by_cases hz : x = 0
      · as_aux_lemma =>
            obtain ⟨z1, z2, z3⟩ := zero_tells
            rw [hz] at hh ht ho
            have hh' : lz = 32 := hh.symm.trans z1
            have ht' : tz = 32 := ht.symm.trans z2
            have ho' : oz = 1 := ho.symm.trans z3
            have hz0 : (x == 0) = true := by simpa using hz
            clear hn hm hh ht ho z1 z2 z3 hz
            have hn := HN
            have hm := HM
            have hh := HH
            have ht := HTt
            have ho := HO
            subst hh' ht' ho'
            go_wp2_with fail
            refine (is_3 x n hn _ ia (St.tab HB.out HT.out)).mono ?_
            rintro e w1 ⟨rfl, hb1⟩
            replace HB := Lib.hid (HB.out.trans (hb1.mono HB.out.size))
            clear hb1 ca'
            go_wp2_with fail
            refine (is_3 _ m hm _ i2 (St.tab HB.out HT.out)).mono ?_
            rintro e w2 ⟨rfl, hb2⟩
            replace HB := Lib.hid (HB.out.trans (hb2.mono HB.out.size))
            clear hb2
            go_wp2_with fail
            refine (is_1 x 32 hh _ ia (St.tab HB.out HT.out)).mono ?_
            rintro e w3 ⟨rfl, hb3⟩
            replace HB := Lib.hid (HB.out.trans (hb3.mono HB.out.size))
            clear hb3
            go_wp2_with fail
            refine (is_2 x 32 ht _ ia (St.tab HB.out HT.out)).mono ?_
            rintro e w4 ⟨rfl, hb4⟩
            replace HB := Lib.hid (HB.out.trans (hb4.mono HB.out.size))
            clear hb4
            go_wp2_with fail
            refine (is_0 x 1 ho _ ia (St.tab HB.out HT.out)).mono ?_
            rintro e w5 ⟨rfl, hb5⟩
            replace HB := Lib.hid (HB.out.trans (hb5.mono HB.out.size))
            clear hb5
            go_wp2_with (go_at_call 8; refine (num_any _ _).mono ?_; rintro e w' ⟨rfl, rfl⟩)
            go_roundw
            case rel => exact ⟨k + 1, by omega, by omega, by go_num, HB.out⟩
            case measure => simp [intOf]; omega
      · as_aux_lemma =>
            obtain ⟨l1, l2⟩ := lead_tells ia hz
            obtain ⟨r1, r2⟩ := trail_tells ia hz
            rw [hh] at l1 l2
            rw [ht] at r1 r2
            have ho' : oz = 0 := by rw [← ho]; exact fl_f (by simpa using hz)
            have hz0 : (x == 0) = false := by simpa using hz
            clear hn hm hh ht ho hz
            have hn := HN
            have hm := HM
            have hh := HH
            have ht := HTt
            have ho := HO
            subst ho'
            have L1 := Lib.hid l1
            have L2 := Lib.hid l2
            have R1 := Lib.hid r1
            have R2 := Lib.hid r2
            clear l1 l2 r1 r2
            go_wp2_with fail
            refine (is_3 x n hn _ ia (St.tab HB.out HT.out)).mono ?_
            rintro e w1 ⟨rfl, hb1⟩
            replace HB := Lib.hid (HB.out.trans (hb1.mono HB.out.size))
            clear hb1 ca'
            go_wp2_with fail
            refine (is_3 _ m hm _ i2 (St.tab HB.out HT.out)).mono ?_
            rintro e w2 ⟨rfl, hb2⟩
            replace HB := Lib.hid (HB.out.trans (hb2.mono HB.out.size))
            clear hb2
            go_wp2_with fail
            refine (is_1 x lz hh _ ia (St.tab HB.out HT.out)).mono ?_
            rintro e w3 ⟨rfl, hb3⟩
            replace HB := Lib.hid (HB.out.trans (hb3.mono HB.out.size))
            clear hb3
            go_wp2_with fail
            refine (is_2 x tz ht _ ia (St.tab HB.out HT.out)).mono ?_
            rintro e w4 ⟨rfl, hb4⟩
            replace HB := Lib.hid (HB.out.trans (hb4.mono HB.out.size))
            clear hb4
            go_wp2_with fail
            refine (is_0 x 0 ho _ ia (St.tab HB.out HT.out)).mono ?_
            rintro e w5 ⟨rfl, hb5⟩
            replace HB := Lib.hid (HB.out.trans (hb5.mono HB.out.size))
            clear hb5
            have l1 := L1.out
            have l2 := L2.out
            have r1 := R1.out
            have r2 := R2.out
            by_cases c1 : 0 < lz
            all_goals by_cases c2 : 0 < tz
            all_goals
              go_wp2_with (go_at_call 8; refine (num_any _ _).mono ?_; rintro e w' ⟨rfl, rfl⟩)
              go_roundw
              case rel => exact ⟨k + 1, by omega, by omega, by go_num, HB.out⟩
              case measure => simp [intOf]; omega
    · have ht : ¬ k < len ∨ (k < len ∧ ¬ k < 30) := by omega
      clear hc hb hlt
      rcases ht with h1 | ⟨h1, h2⟩
      all_goals
        go_wp2_with fail
        refine (wakes_any wr).mono ?_
        rintro e w' ⟨rfl, hb2⟩
        have HB2 := Lib.hid (HB.out.trans (hb2.mono HB.out.size))
        clear hb2
        go_wp2
        go_ret
        exact ⟨rfl, HB2.out⟩

/-! THE ROW's STEP -/
theorem gTab : Tryd.prog.globalNamed "math/bits.deBruijn32tab" = some 0 := by kernel_rfl
theorem tTab : (Tryd.prog.globals[0]?).map (·.type) = some 64 := by kernel_rfl
theorem tabIs {W : World} (h : laidMetH Tryd.prog [("math/bits.deBruijn32tab", Rows.laid_math_bits_deBruijn32tab)] W) : Tab W := by
  rw [MakeChecks.laidMetH_plain _ _ _ (by kernel_rfl)] at h
  have ht : Lib.TabIs Tryd.prog W "math/bits.deBruijn32tab" .u8 (deTab.map fun (n : Nat) => ((n : Nat) : Int)) := Lib.tabIs_of_head (n := 32) (e := 5) gTab tTab Tryd.underlying64 Tryd.underlying5 (by kernel_rfl) (by kernel_rfl) h
  refine ⟨lt_of_cell (ht.cell gTab 0 (by decide)), fun t _ i hi => ?_⟩
  have hl : i < deTab.length := (List.getElem?_eq_some_iff.1 hi).1
  have hc := ht.cell gTab i (by simpa using hl)
  rw [hc]
  simp [List.getD, hi]
theorem door_met (os : Os) (args : Array Value) : laidMetH Tryd.prog [("math/bits.deBruijn32tab", Rows.laid_math_bits_deBruijn32tab)] ((World.doorLaid Tryd.prog 400 os).forCall (fun _ _ => 0) ⟨#[], args, []⟩).memory :=
  laidMetH_of_parts3 (fuel := 8) (laidMet_of_run' 8 (by kernel_rfl) (by kernel_rfl)) (by kernel_rfl) (by kernel_rfl)
set_option maxRecDepth 100000 in
theorem lifted (os : Os) (started : os.Started) (H : Type) (enc : TypeId × Value → H) :
    ReturnsInHanded {} Tryd.checked os 5 .any (fun w args => (Rows.num32BitsSpec.pre enc Tryd.prog Tryd.f5 [] false w args ∧ laidMetH Tryd.prog [("math/bits.deBruijn32tab", Rows.laid_math_bits_deBruijn32tab)] w) ∧ sizedMet enc Tryd.prog Tryd.f5 (OpenSpec.ofChange Rows.num32BitsSpec) false w args)
      (Rows.num32BitsSpec.post enc Tryd.prog Tryd.f5 false true false false) := by
  refine returnsInHanded_of_change_and (C := Tryd.checked) (X := fun w _ => laidMetH Tryd.prog [("math/bits.deBruijn32tab", Rows.laid_math_bits_deBruijn32tab)] w) (fun _ _ _ hh h => h.of_heap hh) (by kernel_rfl) started (by kernel_rfl) Tryd.func5
    (ChangeSpec.witness_shaped (enc := enc) (C := Tryd.checked) (os := os) (X := fun w _ => laidMetH Tryd.prog [("math/bits.deBruijn32tab", Rows.laid_math_bits_deBruijn32tab)] w) false (World.doorLaid Tryd.prog 400 os) #[.slice none 0 0] 8 rfl (World.shaped_of_RefB (by kernel_rfl) (by kernel_rfl)) (by kernel_rfl) (by kernel_rfl) (by kernel_rfl) (door_met os _)) ?_
  intro W base args ds gs before hval0 hW _ _ hL _
  have hval : ∀ (j : Nat) t v, Tryd.f5.params[j]? = some t → args[j]? = some v → Value.okWide Tryd.prog W .any base t v := hval0
  have hW' := hW
  obtain ⟨p, q, hA0, hV, rfl, hfz, hnd⟩ := hW
  have hA : DataW.TrodAll enc Tryd.prog W 0 (fun _ => true) true Tryd.f5.params.toList args.toList ds p := hA0
  rw [Tryd.params5] at hA hval
  obtain ⟨v0, vs0, d0, ds0, p0, q0, hargs, rfl, rfl, h0, r0⟩ := trodAll_cons hA
  obtain ⟨rfl, rfl, rfl⟩ := trodAll_nil r0
  obtain rfl : args = #[v0] := by cases args; simp_all
  obtain ⟨rfl, rfl⟩ := trodVars_none hV
  obtain ⟨a0, len0, cap0, rfl⟩ := okWide_slice Tryd.underlying22 (hval 0 22 v0 rfl rfl)
  have k0 := h0
  have lt0 : ∀ x ∈ p0, x.block < W.heap.size := by obtain ⟨m, hm⟩ := k0; exact DataW.trod_lt m _ _ _ hm
  have hopen := open_twos h0
  have hTab := tabIs hL
  have walked : Calls Tryd.prog 5 #[.slice a0 len0 cap0] W fun r w' => r = .returned (.bool true) ∧ Below W.heap.size W w' := by
    rcases hopen with rfl | ⟨b, off, rfl, X, Y, O, hT⟩
    · exact walk_none a0 cap0 W
    · exact walk b off len0 cap0 X Y O W hT hTab
  clear hA0 hval0
  refine walked.mono fun e W' ⟨he, bel⟩ => ?_
  subst he
  exact ⟨_, rfl, _, _, _, [], _, [], hW', trodAll_mk1 (shut_bool Tryd.underlying4 _), (trodAll_cons_mk (Below.trod laidOut (by kernel_rfl) (of_decide_eq_true (by kernel_rfl)) k0 bel lt0) trodAll_mk0), rfl, bel.frame _, fun h => by cases h⟩

theorem over : Rows.Num32BitsSaid :=
  OpenClaim.holds_of_wide 5 Tryd.f5 rfl rfl rfl rfl rfl rfl rfl ⟨rfl, rfl, rfl, rfl, rfl⟩ rfl rfl rfl rfl rfl (by kernel_rfl) Tryd.func5 (by kernel_rfl)
    (of_decide_eq_true (by kernel_rfl)) (by unfold Func.isWrapper; first | (rw [if_pos (by decide +kernel)]; kernel_rfl) | (rw [if_neg (by decide +kernel)]; exact ⟨rfl, rfl⟩))
    (fun os started H enc _ => lifted os started H enc)

/-- THE CARD: the row, its table tied to the library's text by the given tie. -/
theorem proved : Rows.Num32BitsCardSaid :=
  Claim7.holds_tied_plain_at .later [] [.data] true (true, "4146298fa4b0902c0725e5949033b50901c86ca638e7a277537e7731aef39e44") false
    over (fun _ h => by cases h) (by kernel_rfl) (fun _ h => by cases h) num32Bits_row_tie rfl ⟨rfl, rfl⟩ (by kernel_rfl) rfl
    (fun g gn hf hfn => by
      obtain rfl : g = 5 := Option.some.inj ((show Tryd.prog.funcNamed "gangway/gangwaylaw3.Num32Bits" = some 5 by kernel_rfl).symm.trans hf) |>.symm
      obtain rfl : gn = Tryd.f5 := (Option.some.inj (Tryd.func5.symm.trans hfn)).symm
      exact ⟨by kernel_rfl, fun j t ht => by
        rw [Tryd.params5] at ht
        have hm : t ∈ [22] := by simpa using Array.mem_of_getElem? ht
        have hall : ([22].all fun u => !Tryd.prog.wantsStandIn u) = true := by kernel_rfl
        exact (show Tryd.prog.wantsStandIn t = false by simpa using List.all_eq_true.1 hall t hm)⟩)
    (by kernel_rfl)
#print axioms proved

end Go.Proofs.YtbpgcndanlmdjaaDoor.lawBits
