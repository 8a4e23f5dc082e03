/-
  PROVED: 'gangwaylaw4.Num64All' answers true at every list of pairs and leaves it as it was (every operation of any two numbers is the page's; all other bytes are none). Condition, by the row: the library's table reads as its text lays it; the card ties it.
-/
import Derived.Test.YtmkpaifcgjldbaaDoorWords
import Derived.Test.YtmkpaifcgjldbaaDoorRefUn
import Derived.Test.YtmkpaifcgjldbaaDoorCards
import Derived.Test.YtmkpaifcgjldbaaDoorTie
import Derived.LaidMore
import Derived.Lib.LaidTab
import Derived.Stop.Joined
import Derived.SevenTiedAt
import Derived.Handed
import Derived.LaidByTextLater
namespace Go.Proofs.YtmkpaifcgjldbaaDoor.lawAll
open Go.ChangeShapes Go.WideShapes Go.ChangeAt Go.RowKit

set_option maxHeartbeats 400000 in
theorem walk_none (a : Option Addr) (cap : Nat) (w : World) : Calls Tryd.prog 4 #[.slice a 0 cap] w fun r w' => r = .returned (.bool true) ∧ Below w.heap.size w w' := by
  go_enter Tryd.func4, Tryd.ntmps4
  go_wp2
  refine wp_loop_rounds 1 ?_; rw [rounds_succ]
  go_wp2_with (go_at_call 8; refine (wakes_any w).mono ?_; rintro e w' ⟨rfl, hb⟩)
  go_ret
  exact ⟨rfl, by assumption⟩

/-- what the walk knows of memory: nothing old has turned; block g holds the pair. -/
def St (w W : World) (g : Nat) (x y : Int) : Prop := Below w.heap.size w W ∧ g < W.heap.size ∧ W.cell? ⟨g, 0, none⟩ = some (.int .u64 x) ∧ W.cell? ⟨g, 1, none⟩ = some (.int .u64 y)
theorem St.step {w W W' : World} {g : Nat} {x y : Int} (h : St w W g x y) (hb : Below W.heap.size W W') : St w W' g x y :=
  ⟨h.1.trans (hb.mono h.1.size), Nat.lt_of_lt_of_le h.2.1 hb.size, (hb.cell (p := ⟨g, 0, none⟩) h.2.1).trans h.2.2.1, (hb.cell (p := ⟨g, 1, none⟩) h.2.1).trans h.2.2.2⟩
theorem st_start {w W : World} (h : Below w.heap.size w W) (x y o : Int) : St w (W.alloc (.cells #[.int .u64 x, .int .u64 y, .int .i64 o] 25)) W.heap.size x y :=
  ⟨h.alloc h.size _, by simp, by go_simp, by go_simp⟩
theorem St.tab {w W : World} {g : Nat} {x y : Int} (h : St w W g x y) (hT : Tab w) : Tab W := hT.below hT.1 h.1 h.1.size
theorem re_is (op : Int) : (re op == 0) = ro op := by
  rcases re_ro op with ⟨_, h1, h2⟩ | ⟨h1, h2⟩ <;> rw [h1, h2] <;> rfl
theorem ue_is (op : Int) : (ue op == 0) = uo op := by
  rcases ue_uo op with ⟨h1, h2⟩ | ⟨h1, h2⟩ <;> rw [h1, h2] <;> rfl
set_option maxRecDepth 100000 in
set_option maxHeartbeats 4000000 in
theorem walk (b off len cap : Nat) (X Y O : Nat → Int) (w : World) (h : Twos w b off len X Y O) (hT : Tab w) : Calls Tryd.prog 4 #[.slice (some ⟨b, off, none⟩) len cap] w fun r w' => r = .returned (.bool true) ∧ Below w.heap.size w w' := by
  obtain ⟨hbs, hlen, hc⟩ := h
  have HT := Lib.hid hT
  clear hT
  go_enter Tryd.func4, Tryd.ntmps4
  go_wp2
  go_loopw [3, 5] (fun i _ wr => ∃ k : Nat, k ≤ len ∧ k ≤ 4 ∧ i = .int .i64 k ∧ Below w.heap.size w wr) (fun i _ _ => 4 - (intOf i).toNat)
  case atStart => exact ⟨0, by omega, by omega, rfl, Below.refl _ _⟩
  case round =>
    obtain ⟨k, hk, hk4, rfl, hb⟩ := hrel
    have HB := Lib.hid hb
    by_cases hlt : k < len ∧ k < 4
    · obtain ⟨hl, h4⟩ := hlt
      obtain ⟨ca, cb, co, ia, ib⟩ := hc k hl
      have ca' := (hb.cell (p := ⟨b, off + k * 3, none⟩) hbs).trans ca
      have cb' := (hb.cell (p := ⟨b, off + k * 3 + 1, none⟩) hbs).trans cb
      have co' := (hb.cell (p := ⟨b, off + k * 3 + 2, none⟩) hbs).trans co
      have hk0 : (0 : Int) ≤ (k : Int) := by omega
      have hkl : (k : Int) < (len : Int) := by omega
      have h4b : decide ((k : Int) < 4) = true := by simp; omega
      clear hc hb ca cb co
      obtain ⟨wo, rfl⟩ : ∃ wo : World, wo = wr := ⟨_, rfl⟩
      have HS := Lib.hid (st_start HB.out (X k) (Y k) (O k))
      go_wp2
      go_loopw [5] (fun o wr => ∃ j : Int, -1 ≤ j ∧ j ≤ 257 ∧ o = .int .i64 j ∧ St w wr wo.heap.size (X k) (Y k)) (fun o _ => (257 - intOf o).toNat)
      case atStart => exact ⟨-1, by omega, by omega, rfl, HS.out⟩
      case round =>
        obtain ⟨j, hj0, hj1, rfl, hst⟩ := hrel
        replace HS := Lib.hid hst
        by_cases hjt : j ≤ 256
        · obtain ⟨_, hg, c0, c1⟩ := hst
          go_wp2_with fail
          refine (bin_any j (X k) (Y k) ia ib _).mono ?_
          rintro e w1 ⟨rfl, hb1⟩
          replace HS := Lib.hid (HS.out.step hb1)
          clear hg c0 c1 hb1
          obtain ⟨_, hg, c0, c1⟩ := HS.out
          go_wp2_with fail
          refine (ref_any j (X k) (Y k) ia ib _).mono ?_
          rintro e w2 ⟨rfl, rfl⟩
          go_wp2_with fail
          refine (un_any j (X k) _ ia (HS.out.tab HT.out)).mono ?_
          rintro e w3 ⟨rfl, hb3⟩
          replace HS := Lib.hid (HS.out.step hb3)
          clear hg c0 c1 hb3
          obtain ⟨_, hg, c0, c1⟩ := HS.out
          go_wp2_with fail
          refine (refun_any j (X k) ia _).mono ?_
          rintro e w4 ⟨rfl, rfl⟩
          have q1 := re_is j
          have q2 := ue_is j
          go_wp2_with (go_at_call 7; refine (num_any _ _).mono ?_; rintro e w' ⟨rfl, rfl⟩)
          go_roundw
          case rel => exact ⟨j + 1, by omega, by omega, rfl, HS.out⟩
          case measure => simp [intOf]; omega
        · have hje : 256 < j := by omega
          clear hjt hst
          go_wp2
          go_roundw
          case rel => exact ⟨k + 1, by omega, by omega, by go_num, HS.out.1⟩
          case measure => simp [intOf]; omega
    · have ht : ¬ k < len ∨ (k < len ∧ ¬ k < 4) := by omega
      clear hc hb hlt
      rcases ht with h1 | ⟨h1, h2⟩
      all_goals
        go_wp2_with fail
        refine (wakes_any wr).mono ?_
        rintro e w' ⟨rfl, hb2⟩
        have HB2 := Lib.hid (HB.out.trans (hb2.mono HB.out.size))
        clear hb2
        go_wp2
        go_ret
        exact ⟨rfl, HB2.out⟩

/-! THE ROW's STEP -/
theorem gTab : Tryd.prog.globalNamed "math/bits.deBruijn64tab" = some 0 := by kernel_rfl
theorem tTab : (Tryd.prog.globals[0]?).map (·.type) = some 59 := by kernel_rfl
theorem tabIs {W : World} (h : laidMetH Tryd.prog [("math/bits.deBruijn64tab", Rows.laid_math_bits_deBruijn64tab)] W) : Tab W := by
  rw [MakeChecks.laidMetH_plain _ _ _ (by kernel_rfl)] at h
  have ht : Lib.TabIs Tryd.prog W "math/bits.deBruijn64tab" .u8 (deTab.map fun (n : Nat) => ((n : Nat) : Int)) := Lib.tabIs_of_head (n := 64) (e := 5) gTab tTab Tryd.underlying59 Tryd.underlying5 (by kernel_rfl) (by kernel_rfl) h
  refine ⟨lt_of_cell (ht.cell gTab 0 (by decide)), fun t _ i hi => ?_⟩
  have hl : i < deTab.length := (List.getElem?_eq_some_iff.1 hi).1
  have hc := ht.cell gTab i (by simpa using hl)
  rw [hc]
  simp [List.getD, hi]
theorem door_met (os : Os) (args : Array Value) : laidMetH Tryd.prog [("math/bits.deBruijn64tab", Rows.laid_math_bits_deBruijn64tab)] ((World.doorLaid Tryd.prog 400 os).forCall (fun _ _ => 0) ⟨#[], args, []⟩).memory :=
  laidMetH_of_parts3 (fuel := 8) (laidMet_of_run' 8 (by kernel_rfl) (by kernel_rfl)) (by kernel_rfl) (by kernel_rfl)
set_option maxRecDepth 100000 in
theorem lifted (os : Os) (started : os.Started) (H : Type) (enc : TypeId × Value → H) :
    ReturnsInHanded {} Tryd.checked os 4 .any (fun w args => (Rows.num64AllSpec.pre enc Tryd.prog Tryd.f4 [] false w args ∧ laidMetH Tryd.prog [("math/bits.deBruijn64tab", Rows.laid_math_bits_deBruijn64tab)] w) ∧ sizedMet enc Tryd.prog Tryd.f4 (OpenSpec.ofChange Rows.num64AllSpec) false w args)
      (Rows.num64AllSpec.post enc Tryd.prog Tryd.f4 false true false false) := by
  refine returnsInHanded_of_change_and (C := Tryd.checked) (X := fun w _ => laidMetH Tryd.prog [("math/bits.deBruijn64tab", Rows.laid_math_bits_deBruijn64tab)] w) (fun _ _ _ hh h => h.of_heap hh) (by kernel_rfl) started (by kernel_rfl) Tryd.func4
    (ChangeSpec.witness_shaped (enc := enc) (C := Tryd.checked) (os := os) (X := fun w _ => laidMetH Tryd.prog [("math/bits.deBruijn64tab", Rows.laid_math_bits_deBruijn64tab)] w) false (World.doorLaid Tryd.prog 400 os) #[.slice none 0 0] 8 rfl (World.shaped_of_RefB (by kernel_rfl) (by kernel_rfl)) (by kernel_rfl) (by kernel_rfl) (by kernel_rfl) (door_met os _)) ?_
  intro W base args ds gs before hval0 hW _ _ hL _
  have hval : ∀ (j : Nat) t v, Tryd.f4.params[j]? = some t → args[j]? = some v → Value.okWide Tryd.prog W .any base t v := hval0
  have hW' := hW
  obtain ⟨p, q, hA0, hV, rfl, hfz, hnd⟩ := hW
  have hA : DataW.TrodAll enc Tryd.prog W 0 (fun _ => true) true Tryd.f4.params.toList args.toList ds p := hA0
  rw [Tryd.params4] at hA hval
  obtain ⟨v0, vs0, d0, ds0, p0, q0, hargs, rfl, rfl, h0, r0⟩ := trodAll_cons hA
  obtain ⟨rfl, rfl, rfl⟩ := trodAll_nil r0
  obtain rfl : args = #[v0] := by cases args; simp_all
  obtain ⟨rfl, rfl⟩ := trodVars_none hV
  obtain ⟨a0, len0, cap0, rfl⟩ := okWide_slice Tryd.underlying22 (hval 0 22 v0 rfl rfl)
  have k0 := h0
  have lt0 : ∀ x ∈ p0, x.block < W.heap.size := by obtain ⟨m, hm⟩ := k0; exact DataW.trod_lt m _ _ _ hm
  have hopen := open_twos h0
  have hTab := tabIs hL
  have walked : Calls Tryd.prog 4 #[.slice a0 len0 cap0] W fun r w' => r = .returned (.bool true) ∧ Below W.heap.size W w' := by
    rcases hopen with rfl | ⟨b, off, rfl, X, Y, O, hT⟩
    · exact walk_none a0 cap0 W
    · exact walk b off len0 cap0 X Y O W hT hTab
  clear hA0 hval0
  refine walked.mono fun e W' ⟨he, bel⟩ => ?_
  subst he
  exact ⟨_, rfl, _, _, _, [], _, [], hW', trodAll_mk1 (shut_bool Tryd.underlying4 _), (trodAll_cons_mk (Below.trod laidOut (by kernel_rfl) (of_decide_eq_true (by kernel_rfl)) k0 bel lt0) trodAll_mk0), rfl, bel.frame _, fun h => by cases h⟩

theorem over : Rows.Num64AllSaid :=
  OpenClaim.holds_of_wide 4 Tryd.f4 rfl rfl rfl rfl rfl rfl rfl ⟨rfl, rfl, rfl, rfl, rfl⟩ rfl rfl rfl rfl rfl (by kernel_rfl) Tryd.func4 (by kernel_rfl)
    (of_decide_eq_true (by kernel_rfl)) (by unfold Func.isWrapper; first | (rw [if_pos (by decide +kernel)]; kernel_rfl) | (rw [if_neg (by decide +kernel)]; exact ⟨rfl, rfl⟩))
    (fun os started H enc _ => lifted os started H enc)

/-- THE CARD: the row, its table tied to the library's text by the given tie. -/
theorem proved : Rows.Num64AllCardSaid :=
  Claim7.holds_tied_plain_at .later [] [.data] true (true, "1f1ae5be14fb52a0164c47c0c74a48ba5e9b2caf0db2e9a75659513b36294a55") false
    over (fun _ h => by cases h) (by kernel_rfl) (fun _ h => by cases h) num64All_row_tie rfl ⟨rfl, rfl⟩ (by kernel_rfl) rfl
    (fun g gn hf hfn => by
      obtain rfl : g = 4 := Option.some.inj ((show Tryd.prog.funcNamed "gangway/gangwaylaw4.Num64All" = some 4 by kernel_rfl).symm.trans hf) |>.symm
      obtain rfl : gn = Tryd.f4 := (Option.some.inj (Tryd.func4.symm.trans hfn)).symm
      exact ⟨by kernel_rfl, fun j t ht => by
        rw [Tryd.params4] at ht
        have hm : t ∈ [22] := by simpa using Array.mem_of_getElem? ht
        have hall : ([22].all fun u => !Tryd.prog.wantsStandIn u) = true := by kernel_rfl
        exact (show Tryd.prog.wantsStandIn t = false by simpa using List.all_eq_true.1 hall t hm)⟩)
    (by kernel_rfl)
#print axioms proved

end Go.Proofs.YtmkpaifcgjldbaaDoor.lawAll
