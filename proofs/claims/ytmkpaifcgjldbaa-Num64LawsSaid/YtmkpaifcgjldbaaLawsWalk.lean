/-
  THE WALK OF 'gangwaylaw4.Num64Laws': it answers true at every list of pairs and leaves it as it was (what goes both ways, what undoes what). No condition.
-/
import Derived.Test.YtmkpaifcgjldbaaWords
import Derived.Test.YtmkpaifcgjldbaaNumLaws
import Derived.Deep.QuietTactic
import Derived.BigQuiet
namespace Go.Proofs.Ytmkpaifcgjldbaa.lawLaws
open Go.ChangeShapes Go.WideShapes Go.ChangeAt Go.RowKit
theorem below_drewN {B : Nat} {a w : World} (h : Below B a w) (n : Nat) : Below B a (w.drewN n) := ⟨h.os, h.tape, h.output, h.size, h.block⟩
set_option maxHeartbeats 400000 in
theorem ok_in (op a b : Int) (hA : Is a) (hB : Is b) (h1 : re op = 0) (h2 : rt op a b = 0) (w : World) :
    Calls Try.prog 14 #[.int .i64 op, .int .u64 a, .int .u64 b] w fun e w' => e = .returned (.tuple #[.int .u64 (rv op a b), .bool true]) ∧ Below w.heap.size w w' := by
  go_enter Try.func14, Try.ntmps14
  go_wp2_with (first | (go_at_call 10; refine (bin_any _ _ _ hA hB _).mono ?_; rintro e w' ⟨rfl, hb⟩) | (go_at_call 12; refine (num_any _ _).mono ?_; rintro e w' ⟨rfl, rfl⟩))
  go_ret2
  exact ⟨rfl, by assumption⟩
theorem ok_lit {op : Int} (k : Nat) (a b : Int) (hA : Is a) (hB : Is b) (hp : place op = some k) (hk : ¬ (13 ≤ k ∧ k ≤ 16)) (w : World) :
    Calls Try.prog 14 #[.int .i64 op, .int .u64 a, .int .u64 b] w fun e w' => e = .returned (.tuple #[.int .u64 (val k a b), .bool true]) ∧ Below w.heap.size w w' := by
  obtain ⟨h1, h2, h3⟩ := lit k hp hk a b
  rw [← h3]
  exact ok_in op a b hA hB h1 h2 w
theorem is_more {y : Int} : Is ((y + 64) % 18446744073709551616) := ⟨by omega, by omega⟩
theorem is_wrap {y : Int} : Is (IntKind.u64.wrap (y + 64)) := by
  rw [show IntKind.u64.wrap (y + 64) = (y + 64) % 18446744073709551616 by simp [IntKind.wrap, IntKind.bits, IntKind.signed]]
  exact is_more
theorem shl_wrap (a b : Int) : val 20 a (IntKind.u64.wrap (b + 64)) = val 20 a b := by
  rw [show IntKind.u64.wrap (b + 64) = (b + 64) % 18446744073709551616 by simp [IntKind.wrap, IntKind.bits, IntKind.signed]]
  exact shl_more a b
theorem wrap_sum {u y r x : Int} (h : (u * y + r) % 18446744073709551616 = x) : IntKind.u64.wrap (u * y + r) = x ∧ IntKind.u64.wrap (IntKind.u64.wrap (u * y) + r) = x ∧ (u * y % 18446744073709551616 + r) % 18446744073709551616 = x := by
  have e : ∀ z, IntKind.u64.wrap z = z % 18446744073709551616 := fun z => by simp [IntKind.wrap, IntKind.bits, IntKind.signed]
  rw [e, e, e]
  exact ⟨h, by rw [Int.emod_add_emod]; exact h, by rw [Int.emod_add_emod]; exact h⟩
/-- what the walk knows of memory: nothing old has turned; the five numbers of the table both lie in block g. -/
def St (w W : World) (g : Nat) : Prop := Below w.heap.size w W ∧ g < W.heap.size ∧ ∀ j, j < 5 → W.cell? ⟨g, j, none⟩ = some (.int .i64 (bo j))
theorem st_start {w W : World} (h : Below w.heap.size w W) (n : Nat) : St w ((W.drewN n).alloc (.cells #[.int .i64 106, .int .i64 108, .int .i64 113, .int .i64 114, .int .i64 115] 3)) W.heap.size := by
  refine ⟨(below_drewN h n).alloc h.size _, by simp, fun j hj => ?_⟩
  have hh : j = 0 ∨ j = 1 ∨ j = 2 ∨ j = 3 ∨ j = 4 := by omega
  have hc := cells_at (w := (W.drewN n).alloc (.cells #[.int .i64 106, .int .i64 108, .int .i64 113, .int .i64 114, .int .i64 115] 3)) (b := W.heap.size) (t := 3) (Array.getElem?_push_size ..)
  rcases hh with rfl | rfl | rfl | rfl | rfl <;> exact hc _ _ rfl
theorem St.step {w W W' : World} {g : Nat} (h : St w W g) (hb : Below W.heap.size W W') : St w W' g :=
  ⟨h.1.trans (hb.mono h.1.size), Nat.lt_of_lt_of_le h.2.1 hb.size, fun j hj => (hb.cell (p := ⟨g, j, none⟩) h.2.1).trans (h.2.2 j hj)⟩
set_option maxRecDepth 100000 in
set_option maxHeartbeats 400000 in
theorem walk_none (a : Option Addr) (cap : Nat) (w : World) : Calls Try.prog 4 #[.slice a 0 cap] w fun r w' => r = .returned (.bool true) ∧ Below w.heap.size w w' := by
  go_enter Try.func4, Try.ntmps4
  go_wp2
  refine wp_loop_rounds 1 ?_; rw [rounds_succ]
  go_wp2_with (go_at_call 13; refine (wakes_any w).mono ?_; rintro e w' ⟨rfl, hb⟩)
  go_ret
  exact ⟨rfl, by assumption⟩
set_option maxRecDepth 100000 in
set_option maxHeartbeats 8000000 in
theorem walk (b off len cap : Nat) (X Y O : Nat → Int) (w : World) (h : Twos w b off len X Y O) : Calls Try.prog 4 #[.slice (some ⟨b, off, none⟩) len cap] w fun r w' => r = .returned (.bool true) ∧ Below w.heap.size w w' := by
  obtain ⟨hbs, hlen, hc⟩ := h
  go_enter Try.func4, Try.ntmps4
  go_wp2
  go_loopw [5] (fun i wr => ∃ k : Nat, k ≤ len ∧ k ≤ 30 ∧ i = .int .i64 k ∧ Below w.heap.size w wr) (fun i _ => 30 - (intOf i).toNat)
  case atStart => exact ⟨0, by omega, by omega, rfl, Below.refl _ _⟩
  case round =>
    obtain ⟨k, hk, hk30, rfl, hb⟩ := hrel
    have HB := Lib.hid hb
    by_cases hlt : k < len ∧ k < 30
    · obtain ⟨hl, h30⟩ := hlt
      obtain ⟨ca, cb, co, ia, ib⟩ := hc k hl
      have ca' := (hb.cell (p := ⟨b, off + k * 3, none⟩) hbs).trans ca
      have cb' := (hb.cell (p := ⟨b, off + k * 3 + 1, none⟩) hbs).trans cb
      have hk0 : (0 : Int) ≤ (k : Int) := by omega
      have hkl : (k : Int) < (len : Int) := by omega
      have h30b : decide ((k : Int) < 30) = true := by simp; omega
      clear hc hb ca cb co
      obtain ⟨wo, rfl⟩ : ∃ wo : World, wo = wr := ⟨_, rfl⟩
      go_wp2
      go_quiet (fail)
      clear ca' cb'
      obtain ⟨x, hx⟩ : ∃ x, X k = x := ⟨_, rfl⟩
      obtain ⟨y, hy⟩ : ∃ y, Y k = y := ⟨_, rfl⟩
      rw [hx] at ia
      rw [hy] at ib
      simp only [hx, hy]
      clear hx hy
      go_wp2
      have HS : Hid (St w ((wo.drewN nq).alloc (.cells #[.int .i64 106, .int .i64 108, .int .i64 113, .int .i64 114, .int .i64 115] 3)) wo.heap.size) :=
        Lib.hid (st_start HB.out nq)
      go_loopw [9] (fun q wr => ∃ j : Nat, j ≤ 5 ∧ q = .int .i64 j ∧ St w wr wo.heap.size) (fun q _ => 5 - (intOf q).toNat)
      case atStart => exact ⟨0, by omega, rfl, HS.out⟩
      case round =>
        obtain ⟨j, hj5, rfl, hst⟩ := hrel
        have HS1 := Lib.hid hst
        have hg := hst.2.1
        by_cases hj : j < 5
        · as_aux_lemma =>
            have cj := hst.2.2 j hj
            have hbd := bo_bd j
            obtain ⟨hb0, hb1⟩ := hbd
            have HF := Lib.hid (both_ways hj x y)
            clear hst
            go_wp2_with fail
            refine (ok_in _ _ _ ia ib HF.out.1 (HF.out.2.1 x y) _).mono ?_
            rintro e w1 ⟨rfl, hb1⟩
            have HS2 := Lib.hid (HS1.out.step hb1)
            have cj1 := HS2.out.2.2 j hj
            have hg1 := HS2.out.2.1
            clear hb1
            go_wp2_with fail
            refine (ok_in _ _ _ ib ia HF.out.1 (HF.out.2.1 y x) _).mono ?_
            rintro e w2 ⟨rfl, hb2⟩
            have HS3 := Lib.hid (HS2.out.step hb2)
            clear hb2 cj cj1
            have hcomm := HF.out.2.2
            go_wp2
            go_roundw
            case rel => exact ⟨j + 1, by omega, by go_num, HS3.out⟩
            case measure => simp [intOf]; omega
        · have hje : j = 5 := by omega
          subst hje
          have HB := Lib.hid HS1.out.1
          clear hst hg
          have iD : Is (val 11 x y) := val_bd 11 ia.1 ia.2 ib.1 ib.2 (by omega)
          have iT : Is (val 23 x y) := val_bd 23 ia.1 ia.2 ib.1 ib.2 (by omega)
          go_wp2_with fail
          refine (ok_lit 11 x y ia ib (by decide) (by decide) _).mono ?_
          rintro e w3 ⟨rfl, hb3⟩
          replace HB := Lib.hid (HB.out.trans (hb3.mono HB.out.size))
          clear hb3
          go_wp2_with fail
          refine (ok_lit 10 _ y iD ib (by decide) (by decide) _).mono ?_
          rintro e w4 ⟨rfl, hb4⟩
          replace HB := Lib.hid (HB.out.trans (hb4.mono HB.out.size))
          clear hb4
          have hback := sub_add (b := y) ia.1 ia.2
          go_wp2
          clear hback
          go_loopw [18] (fun q wr => ∃ j : Nat, j ≤ 2 ∧ q = .int .i64 j ∧ Below w.heap.size w wr) (fun q _ => 2 - (intOf q).toNat)
          case atStart => exact ⟨0, by omega, rfl, HB.out⟩
          case round =>
            obtain ⟨j, hj2, rfl, hb5⟩ := hrel
            replace HB := Lib.hid hb5
            clear hb5
            by_cases hj : j < 2
            · as_aux_lemma =>
                have HD := Lib.hid (div_ways (b := y) hj ia.1 ia.2)
                have hp := place_div hj
                have r1 := re_of hp.1
                have r2 := re_of hp.2
                clear hp
                go_wp2_with fail
                rw [show ((109 : Int) + (j : Int) + 18) = 127 + (j : Int) by omega]
                refine (bin_any _ x y ia ib _).mono ?_
                rintro e w6 ⟨rfl, hb6⟩
                replace HB := Lib.hid (HB.out.trans (hb6.mono HB.out.size))
                clear hb6
                go_wp2_with fail
                rw [show ((111 : Int) + (j : Int) + 18) = 129 + (j : Int) by omega]
                refine (bin_any _ x y ia ib _).mono ?_
                rintro e w7 ⟨rfl, hb7⟩
                replace HB := Lib.hid (HB.out.trans (hb7.mono HB.out.size))
                clear hb7
                rcases HD.out with ⟨d1, d2, d3, d4⟩ | ⟨d1, d2, d3⟩ | ⟨d1, d2, d3⟩
                · obtain ⟨d5, d6, _⟩ := wrap_sum d4
                  clear d4
                  go_wp2_with (go_at_call 12; refine (num_any _ _).mono ?_; rintro e w' ⟨rfl, rfl⟩)
                  go_roundw
                  case rel => exact ⟨j + 1, by omega, by go_num, HB.out⟩
                  case measure => simp [intOf]; omega
                all_goals
                  go_wp2_with (go_at_call 12; refine (num_any _ _).mono ?_; rintro e w' ⟨rfl, rfl⟩)
                  go_roundw
                  case rel => exact ⟨j + 1, by omega, by go_num, HB.out⟩
                  case measure => simp [intOf]; omega
            · have hje : ¬ (j : Int) < 2 := by omega
              clear hj
              go_wp2_with fail
              refine (ok_lit 23 x y ia ib (by decide) (by decide) _).mono ?_
              rintro e w8 ⟨rfl, hb8⟩
              replace HB := Lib.hid (HB.out.trans (hb8.mono HB.out.size))
              clear hb8
              go_wp2_with fail
              refine (ok_lit 24 _ y iT ib (by decide) (by decide) _).mono ?_
              rintro e w9 ⟨rfl, hb9⟩
              replace HB := Lib.hid (HB.out.trans (hb9.mono HB.out.size))
              clear hb9
              go_wp2_with fail
              refine (ok_lit 20 x y ia ib (by decide) (by decide) _).mono ?_
              rintro e w10 ⟨rfl, hb10⟩
              replace HB := Lib.hid (HB.out.trans (hb10.mono HB.out.size))
              clear hb10
              go_wp2_with fail
              refine (ok_lit 20 x _ ia (by first | exact is_more | exact is_wrap) (by decide) (by decide) _).mono ?_
              rintro e w11 ⟨rfl, hb11⟩
              replace HB := Lib.hid (HB.out.trans (hb11.mono HB.out.size))
              clear hb11
              have l1 := rot_back (b := y) ia.1 ia.2
              have l2 := True.intro
              have l3 := shl_wrap x y
              go_wp2
              clear l1 l2 l3
              go_loopw [31] (fun q wr => ∃ j : Nat, j ≤ 2 ∧ q = .int .i64 j ∧ Below w.heap.size w wr) (fun q _ => 2 - (intOf q).toNat)
              case atStart => exact ⟨0, by omega, rfl, HB.out⟩
              case round =>
                obtain ⟨j, hj2, rfl, hb12⟩ := hrel
                replace HB := Lib.hid hb12
                clear hb12
                by_cases hj : j < 2
                · as_aux_lemma =>
                    have HT := Lib.hid (test_ways hj ia.1 ia.2 ib.1 ib.2)
                    have HP := Lib.hid (place_test hj)
                    go_wp2_with fail
                    rw [show ((72 : Int) + (j : Int) + 11) = 83 + (j : Int) by omega]
                    refine (ok_lit (2 + j) x y ia ib HP.out.1 (by omega) _).mono ?_
                    rintro e w13 ⟨rfl, hb13⟩
                    replace HB := Lib.hid (HB.out.trans (hb13.mono HB.out.size))
                    clear hb13
                    go_wp2_with fail
                    rw [show ((74 : Int) + (j : Int) + 11) = 85 + (j : Int) by omega]
                    refine (ok_lit (4 + j) x y ia ib HP.out.2.1 (by omega) _).mono ?_
                    rintro e w14 ⟨rfl, hb14⟩
                    replace HB := Lib.hid (HB.out.trans (hb14.mono HB.out.size))
                    clear hb14
                    go_wp2_with fail
                    refine (ok_lit 0 x y ia ib (by decide) (by decide) _).mono ?_
                    rintro e w15 ⟨rfl, hb15⟩
                    replace HB := Lib.hid (HB.out.trans (hb15.mono HB.out.size))
                    clear hb15
                    go_wp2_with fail
                    rw [show ((76 : Int) + (j : Int) + 11) = 87 + (j : Int) by omega]
                    refine (ok_lit (6 + j) x y ia ib HP.out.2.2.1 (by omega) _).mono ?_
                    rintro e w16 ⟨rfl, hb16⟩
                    replace HB := Lib.hid (HB.out.trans (hb16.mono HB.out.size))
                    clear hb16
                    go_wp2_with fail
                    rw [show ((78 : Int) + (j : Int) + 11) = 89 + (j : Int) by omega]
                    refine (ok_lit (8 + j) x y ia ib HP.out.2.2.2 (by omega) _).mono ?_
                    rintro e w17 ⟨rfl, hb17⟩
                    replace HB := Lib.hid (HB.out.trans (hb17.mono HB.out.size))
                    clear hb17
                    obtain ⟨⟨t1, t2, t3⟩, ⟨t4, t5⟩, ⟨t6, t7⟩, ⟨t8, t9⟩⟩ := HT.out
                    go_wp2
                    go_roundw
                    case rel => exact ⟨j + 1, by omega, by go_num, HB.out⟩
                    case measure => simp [intOf]; omega
                · as_aux_lemma =>
                    have hje : ¬ (j : Int) < 2 := by omega
                    clear hj
                    go_wp2
                    go_roundw
                    case rel => exact ⟨k + 1, by omega, by omega, by go_num, HB.out⟩
                    case measure => simp [intOf]; omega
    · as_aux_lemma =>
        have ht : ¬ k < len ∨ (k < len ∧ ¬ k < 30) := by omega
        clear hc hb hlt
        rcases ht with h1 | ⟨h1, h2⟩
        all_goals
          go_wp2_with fail
          refine (wakes_any wr).mono ?_
          rintro e w' ⟨rfl, hb2⟩
          have HB2 := Lib.hid (HB.out.trans (hb2.mono HB.out.size))
          clear hb2
          go_wp2
          go_ret
          exact ⟨rfl, HB2.out⟩
end Go.Proofs.Ytmkpaifcgjldbaa.lawLaws

