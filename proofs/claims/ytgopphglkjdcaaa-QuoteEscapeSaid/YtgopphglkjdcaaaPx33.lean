-- Laid by wip/hprint.py: the kit's print of the translation, turned in places, beside contracts that this session wrote by hand; Lean checks all of it.
import Derived.Test.YtgopphglkjdcaaaPx0
import Derived.Test.YtgopphglkjdcaaaPx4
import Derived.Test.YtgopphglkjdcaaaPx8
import Derived.Test.YtgopphglkjdcaaaPx10
import Derived.Test.YtgopphglkjdcaaaPx23
import Derived.Test.YtgopphglkjdcaaaPx26
import Derived.Test.YtgopphglkjdcaaaPx32
namespace Go.Proofs.Ytgopphglkjdcaaa.Px
open Go.RowKit Go.Proofs.YtgopphglkjdcaaaW.PrintWords Go.Proofs.YtgopphglkjdcaaaW.PrintLast Go.Proofs.YtgopphglkjdcaaaW.PrintMore
attribute [local go_sem] max2_int min2_int max_two min_two max_three min_three max_four min_four   -- for this text's walks alone
set_option linter.unusedVariables false
set_option linter.unusedSimpArgs false

/-! ### gonglaw10_QuoteEscape: function 7 -/
mutual
def gonglaw10_QuoteEscape.j0 : Nat → ByteArray → ByteArray → Bool → Option (Bool)
  | 0, _, _, _ => none
  | k + 1, x0, x1, x23 => if x23 = true then (some true) else ((quote_Escape.f x0).bind fun t319 => ((quote_Escape.f x1).bind fun t320 => (if x0.size + x1.size ≤ 9223372036854775807 then ((quote_Escape.f (x0 ++ x1)).bind fun t321 => ((strings_Count.f x0 (⟨#[92]⟩ : ByteArray)).bind fun t322 => ((strings_Count.f x0 (⟨#[93]⟩ : ByteArray)).bind fun t323 => ((strings_Count.f x0 (⟨#[34]⟩ : ByteArray)).bind fun t324 => (if t319.size + t320.size ≤ 9223372036854775807 then (if t321.toList = (t319 ++ t320).toList then (gonglaw10_QuoteEscape.j1 k x0 t319 ((t319.size : Int) != (wrap64 ((x0.size : Int) + (wrap64 ((wrap64 (t322 + t323)) + t324)))))) else (gonglaw10_QuoteEscape.j1 k x0 t319 true)) else (none)))))) else (none))))
def gonglaw10_QuoteEscape.j1 : Nat → ByteArray → ByteArray → Bool → Option (Bool)
  | 0, _, _, _ => none
  | k + 1, x0, x5, x53 => if x53 = true then (some false) else (if 6 + x5.size ≤ 9223372036854775807 then (if ((⟨#[91, 105, 32, 110, 61, 34]⟩ : ByteArray) ++ x5).size + 2 ≤ 9223372036854775807 then ((quote_Parse.f k (((⟨#[91, 105, 32, 110, 61, 34]⟩ : ByteArray) ++ x5) ++ (⟨#[34, 93]⟩ : ByteArray))).bind fun bt325 => ((utf_Check.f k x0).bind fun t330 => (if t330 = 0 then ((quote_Get.f bt325.1 (⟨#[105]⟩ : ByteArray) (⟨#[110]⟩ : ByteArray)).bind fun bt331 => (if bt325.2.2 = 0 then (if bt325.2.1.toList = ([] : List UInt8) then (if bt331.2 = true then (some (bt331.1.toList == x0.toList)) else (some false)) else (some false)) else (some false))) else (if bt325.2.2 = 100 then (some ((bt325.1.length : Int) == 0)) else (some false))))) else (none)) else (none))
end
def gonglaw10_QuoteEscape.f (k : Nat) (a0 : ByteArray) (a1 : ByteArray) : Option (Bool) := (gonglaw10_works.f k).bind fun t318 => (if t318 = true then (if (a0.size : Int) > 500 then (gonglaw10_QuoteEscape.j0 k a0 a1 true) else (gonglaw10_QuoteEscape.j0 k a0 a1 (decide ((a1.size : Int) > 500)))) else (some false))
theorem gonglaw10_QuoteEscape.mono_l : ∀ k, (∀ y0 y1 y2, LeO (gonglaw10_QuoteEscape.j0 k y0 y1 y2) (gonglaw10_QuoteEscape.j0 (k + 1) y0 y1 y2)) ∧ (∀ y0 y1 y2, LeO (gonglaw10_QuoteEscape.j1 k y0 y1 y2) (gonglaw10_QuoteEscape.j1 (k + 1) y0 y1 y2))
  | 0 => ⟨fun _ _ _ r h => by simp [gonglaw10_QuoteEscape.j0] at h, fun _ _ _ r h => by simp [gonglaw10_QuoteEscape.j1] at h⟩
  | k + 1 => by
    obtain ⟨ih0, ih1⟩ := gonglaw10_QuoteEscape.mono_l k
    refine ⟨?_, ?_⟩
    · intro y0 y1 y2
      unfold gonglaw10_QuoteEscape.j0
      repeat' first
      | (with_reducible exact ih0 _ _ _)
      | (with_reducible exact ih1 _ _ _)
      | (with_reducible exact gonglaw10_works.mono _)
      | (with_reducible exact quote_Parse.mono _ _)
      | (with_reducible exact utf_Check.mono _ _)
      | (with_reducible exact LeO.refl _)
      | (with_reducible exact LeO.none _)
      | (with_reducible refine LeO.ite ?_ ?_)
      | (with_reducible refine LeO.bind ?_ (fun _ => ?_))
      | exact ih0 _ _ _
      | exact ih1 _ _ _
      | exact gonglaw10_works.mono _
      | exact quote_Parse.mono _ _
      | exact utf_Check.mono _ _
      | exact LeO.none _
      | refine LeO.ite ?_ ?_
      | refine LeO.bind ?_ (fun _ => ?_)
    · intro y0 y1 y2
      unfold gonglaw10_QuoteEscape.j1
      repeat' first
      | (with_reducible exact ih0 _ _ _)
      | (with_reducible exact ih1 _ _ _)
      | (with_reducible exact gonglaw10_works.mono _)
      | (with_reducible exact quote_Parse.mono _ _)
      | (with_reducible exact utf_Check.mono _ _)
      | (with_reducible exact LeO.refl _)
      | (with_reducible exact LeO.none _)
      | (with_reducible refine LeO.ite ?_ ?_)
      | (with_reducible refine LeO.bind ?_ (fun _ => ?_))
      | exact ih0 _ _ _
      | exact ih1 _ _ _
      | exact gonglaw10_works.mono _
      | exact quote_Parse.mono _ _
      | exact utf_Check.mono _ _
      | exact LeO.none _
      | refine LeO.ite ?_ ?_
      | refine LeO.bind ?_ (fun _ => ?_)
theorem gonglaw10_QuoteEscape.mono : ∀ a0 a1 k, LeO (gonglaw10_QuoteEscape.f k a0 a1) (gonglaw10_QuoteEscape.f (k + 1) a0 a1) := by
  intro a0 a1 k
  obtain ⟨ih0, ih1⟩ := gonglaw10_QuoteEscape.mono_l k
  unfold gonglaw10_QuoteEscape.f
  repeat' first
      | (with_reducible exact ih0 _ _ _)
      | (with_reducible exact ih1 _ _ _)
      | (with_reducible exact gonglaw10_works.mono _)
      | (with_reducible exact quote_Parse.mono _ _)
      | (with_reducible exact utf_Check.mono _ _)
      | (with_reducible exact LeO.refl _)
      | (with_reducible exact LeO.none _)
      | (with_reducible refine LeO.ite ?_ ?_)
      | (with_reducible refine LeO.bind ?_ (fun _ => ?_))
      | exact ih0 _ _ _
      | exact ih1 _ _ _
      | exact gonglaw10_works.mono _
      | exact quote_Parse.mono _ _
      | exact utf_Check.mono _ _
      | exact LeO.none _
      | refine LeO.ite ?_ ?_
      | refine LeO.bind ?_ (fun _ => ?_)
set_option maxHeartbeats 8000000 in
set_option maxRecDepth 100000 in
theorem gonglaw10_QuoteEscape.calls (k : Nat) (a0 : ByteArray) (a1 : ByteArray) (r : Bool) (w : World) (h : gonglaw10_QuoteEscape.f k a0 a1 = some r) :
    Calls Try.prog 7 #[.string a0, .string a1] w fun e w' => e = .returned (.bool r) ∧ Below w.heap.size w w' := by
  have HB := Aside0.mk (Below.refl w.heap.size w)
  have H : ((gonglaw10_works.f k).bind fun t318 => (if t318 = true then (if (a0.size : Int) > 500 then (gonglaw10_QuoteEscape.j0 k a0 a1 true) else (gonglaw10_QuoteEscape.j0 k a0 a1 (decide ((a1.size : Int) > 500)))) else (some false))) = some r := h
  clear h
  replace H := Option.bind_eq_some_iff.mp H
  obtain ⟨t318, A30, H⟩ := H
  replace H : (if t318 = true then (if (a0.size : Int) > 500 then (gonglaw10_QuoteEscape.j0 k a0 a1 true) else (gonglaw10_QuoteEscape.j0 k a0 a1 (decide ((a1.size : Int) > 500)))) else (some false)) = some r := H
  have A3 := Aside0.mk A30
  clear A30
  by_cases c4 : t318 = true
  · subst c4
    have H1 : (if (a0.size : Int) > 500 then (gonglaw10_QuoteEscape.j0 k a0 a1 true) else (gonglaw10_QuoteEscape.j0 k a0 a1 (decide ((a1.size : Int) > 500)))) = some r := by rw [if_pos rfl] at H; exact H
    clear H
    have H := H1
    clear H1
    have HC5 := Aside0.mk H
    clear H
    go_enter Try.func7, Try.ntmps7
    go_upto_region 3 with (first | ((with_reducible refine gate_callee (f := 8) rfl ?_); refine goesL_ (some 14) rfl rfl Try.func8 (by kernel_rfl) rfl #[] rfl (by (try simp only [List.map_toArray, List.map_cons, List.map_nil]); first | done | rfl | (simp only [List.length_drop, List.length_take]; rfl)) ?_; (with_reducible refine (gonglaw10_works.calls k  true _ A3.out).mono ?_); rintro e w6 ⟨rfl, hb⟩; refine ⟨_, rfl, ?_⟩; have n0_ := Aside0.mk (below_step (by repeat (first | (with_reducible first | exact HB.out | apply below_alloc | apply pw_below_drewN | apply below_drew1) | exact HB.out)) hb); clear HB; have HB := n0_; clear n0_; (try clear hb); (try clear hb2); (try clear hk); (try clear hi)))
    (try simp only [Act.put, List.setIfInBounds_toArray, List.set_cons_zero, List.set_cons_succ])
    go_cut [23] (fun v23 wc => ∃ (kq : Nat) (x23_4 : Bool), v23 = .bool x23_4 ∧ Aside0 (gonglaw10_QuoteEscape.j0 kq a0 a1 x23_4 = some r) ∧ Aside0 (kq ≤ k) ∧ Aside0 (Below w.heap.size w wc))
    case first =>
      have H := HC5.out
      clear HC5
      by_cases c7 : (a0.size : Int) > 500
      · rw [if_pos c7] at H
        have c7b0 : decide (500 < (a0.size : Int)) = true := decide_eq_true c7
        have c7b1 : decide (500 < a0.size) = true := decide_eq_true (by omega)
        clear c7
        (first | rw [c7b0] | (simp only [i64_w, i32_w]; rw [c7b0]) | skip)
        have H' := Aside0.mk H
        clear H
        go_wp2
        go_meet
        case rel => exact ⟨_, (true), (by first | rfl | (simp; done) | (simp [*]; done)), H', ⟨by first | omega | exact Nat.le_refl _⟩, ⟨by repeat (first | (with_reducible first | exact HB.out | apply below_alloc | apply pw_below_drewN | apply below_drew1) | exact HB.out)⟩⟩
      · rw [if_neg c7] at H
        have c7b0 : decide (500 < (a0.size : Int)) = false := decide_eq_false c7
        have c7b1 : decide (500 < a0.size) = false := decide_eq_false (by omega)
        clear c7
        (first | rw [c7b0] | (simp only [i64_w, i32_w]; rw [c7b0]) | skip)
        have H' := Aside0.mk H
        clear H
        go_wp2
        go_meet
        case rel => exact ⟨_, (decide ((a1.size : Int) > 500)), (by first | rfl | (simp; done) | (simp [*]; done)), H', ⟨by first | omega | exact Nat.le_refl _⟩, ⟨by repeat (first | (with_reducible first | exact HB.out | apply below_alloc | apply pw_below_drewN | apply below_drew1) | exact HB.out)⟩⟩
    case rest =>
      clear HC5
      try clear p2
      try clear c4
      try clear c7
      try clear c7b0
      try clear c7b1
      obtain ⟨kq, x23_4, rfl, HA, HJ4, HB⟩ := hcut
      cases kq with
      | zero => exact absurd HA.out (by simp [gonglaw10_QuoteEscape.j0])
      | succ kj4 =>
        have H := HA.out
        clear HA
        simp only [gonglaw10_QuoteEscape.j0] at H
        by_cases c8 : x23_4 = true
        · subst c8
          have H1 : (some true) = some r := by rw [if_pos rfl] at H; exact H
          clear H
          have H := H1
          clear H1
          obtain rfl := Option.some.inj H
          go_wp2
          go_ret
          exact ⟨by first | rfl | (simp [errW_none, errW_some] <;> rfl) | (simp [*, errW_none, errW_some] <;> rfl), by repeat (first | (with_reducible first | exact HB.out | apply below_alloc | apply pw_below_drewN | apply below_drew1) | exact HB.out)⟩
        · replace c8 := Bool.eq_false_iff.mpr c8
          subst c8
          have H1 : ((quote_Escape.f a0).bind fun t319 => ((quote_Escape.f a1).bind fun t320 => (if a0.size + a1.size ≤ 9223372036854775807 then ((quote_Escape.f (a0 ++ a1)).bind fun t321 => ((strings_Count.f a0 (⟨#[92]⟩ : ByteArray)).bind fun t322 => ((strings_Count.f a0 (⟨#[93]⟩ : ByteArray)).bind fun t323 => ((strings_Count.f a0 (⟨#[34]⟩ : ByteArray)).bind fun t324 => (if t319.size + t320.size ≤ 9223372036854775807 then (if t321.toList = (t319 ++ t320).toList then (gonglaw10_QuoteEscape.j1 kj4 a0 t319 ((t319.size : Int) != (wrap64 ((a0.size : Int) + (wrap64 ((wrap64 (t322 + t323)) + t324)))))) else (gonglaw10_QuoteEscape.j1 kj4 a0 t319 true)) else (none)))))) else (none)))) = some r := by rw [if_neg (show ¬ (false = true) by decide)] at H; exact H
          clear H
          have H := H1
          clear H1
          replace H := Option.bind_eq_some_iff.mp H
          obtain ⟨t319, A90, H⟩ := H
          replace H : ((quote_Escape.f a1).bind fun t320 => (if a0.size + a1.size ≤ 9223372036854775807 then ((quote_Escape.f (a0 ++ a1)).bind fun t321 => ((strings_Count.f a0 (⟨#[92]⟩ : ByteArray)).bind fun t322 => ((strings_Count.f a0 (⟨#[93]⟩ : ByteArray)).bind fun t323 => ((strings_Count.f a0 (⟨#[34]⟩ : ByteArray)).bind fun t324 => (if t319.size + t320.size ≤ 9223372036854775807 then (if t321.toList = (t319 ++ t320).toList then (gonglaw10_QuoteEscape.j1 kj4 a0 t319 ((t319.size : Int) != (wrap64 ((a0.size : Int) + (wrap64 ((wrap64 (t322 + t323)) + t324)))))) else (gonglaw10_QuoteEscape.j1 kj4 a0 t319 true)) else (none)))))) else (none))) = some r := H
          have A9 := Aside0.mk A90
          clear A90
          replace H := Option.bind_eq_some_iff.mp H
          obtain ⟨t320, A100, H⟩ := H
          replace H : (if a0.size + a1.size ≤ 9223372036854775807 then ((quote_Escape.f (a0 ++ a1)).bind fun t321 => ((strings_Count.f a0 (⟨#[92]⟩ : ByteArray)).bind fun t322 => ((strings_Count.f a0 (⟨#[93]⟩ : ByteArray)).bind fun t323 => ((strings_Count.f a0 (⟨#[34]⟩ : ByteArray)).bind fun t324 => (if t319.size + t320.size ≤ 9223372036854775807 then (if t321.toList = (t319 ++ t320).toList then (gonglaw10_QuoteEscape.j1 kj4 a0 t319 ((t319.size : Int) != (wrap64 ((a0.size : Int) + (wrap64 ((wrap64 (t322 + t323)) + t324)))))) else (gonglaw10_QuoteEscape.j1 kj4 a0 t319 true)) else (none)))))) else (none)) = some r := H
          have A10 := Aside0.mk A100
          clear A100
          by_cases c11 : a0.size + a1.size ≤ 9223372036854775807
          · rw [if_pos c11] at H
            have c11b0 := eq_true c11
            have c11b1 : decide (a0.size + a1.size ≤ 9223372036854775807) = true := decide_eq_true c11
            try have c11b2 : (9223372036854775807 < a0.size + a1.size) = False := eq_false (Nat.not_lt.2 c11)
            replace H := Option.bind_eq_some_iff.mp H
            obtain ⟨t321, A120, H⟩ := H
            replace H : ((strings_Count.f a0 (⟨#[92]⟩ : ByteArray)).bind fun t322 => ((strings_Count.f a0 (⟨#[93]⟩ : ByteArray)).bind fun t323 => ((strings_Count.f a0 (⟨#[34]⟩ : ByteArray)).bind fun t324 => (if t319.size + t320.size ≤ 9223372036854775807 then (if t321.toList = (t319 ++ t320).toList then (gonglaw10_QuoteEscape.j1 kj4 a0 t319 ((t319.size : Int) != (wrap64 ((a0.size : Int) + (wrap64 ((wrap64 (t322 + t323)) + t324)))))) else (gonglaw10_QuoteEscape.j1 kj4 a0 t319 true)) else (none))))) = some r := H
            have A12 := Aside0.mk A120
            clear A120
            replace H := Option.bind_eq_some_iff.mp H
            obtain ⟨t322, A130, H⟩ := H
            replace H : ((strings_Count.f a0 (⟨#[93]⟩ : ByteArray)).bind fun t323 => ((strings_Count.f a0 (⟨#[34]⟩ : ByteArray)).bind fun t324 => (if t319.size + t320.size ≤ 9223372036854775807 then (if t321.toList = (t319 ++ t320).toList then (gonglaw10_QuoteEscape.j1 kj4 a0 t319 ((t319.size : Int) != (wrap64 ((a0.size : Int) + (wrap64 ((wrap64 (t322 + t323)) + t324)))))) else (gonglaw10_QuoteEscape.j1 kj4 a0 t319 true)) else (none)))) = some r := H
            have A13 := Aside0.mk A130
            clear A130
            replace H := Option.bind_eq_some_iff.mp H
            obtain ⟨t323, A140, H⟩ := H
            replace H : ((strings_Count.f a0 (⟨#[34]⟩ : ByteArray)).bind fun t324 => (if t319.size + t320.size ≤ 9223372036854775807 then (if t321.toList = (t319 ++ t320).toList then (gonglaw10_QuoteEscape.j1 kj4 a0 t319 ((t319.size : Int) != (wrap64 ((a0.size : Int) + (wrap64 ((wrap64 (t322 + t323)) + t324)))))) else (gonglaw10_QuoteEscape.j1 kj4 a0 t319 true)) else (none))) = some r := H
            have A14 := Aside0.mk A140
            clear A140
            replace H := Option.bind_eq_some_iff.mp H
            obtain ⟨t324, A150, H⟩ := H
            replace H : (if t319.size + t320.size ≤ 9223372036854775807 then (if t321.toList = (t319 ++ t320).toList then (gonglaw10_QuoteEscape.j1 kj4 a0 t319 ((t319.size : Int) != (wrap64 ((a0.size : Int) + (wrap64 ((wrap64 (t322 + t323)) + t324)))))) else (gonglaw10_QuoteEscape.j1 kj4 a0 t319 true)) else (none)) = some r := H
            have A15 := Aside0.mk A150
            clear A150
            have HC16 := Aside0.mk H
            clear H
            go_upto_region 7 with (first | ((with_reducible refine gate_callee (f := 14) rfl ?_); refine goesL_ (some 25) rfl rfl Try.func14 (by kernel_rfl) rfl #[.string a0] rfl (by (try simp only [List.map_toArray, List.map_cons, List.map_nil]); first | done | rfl | (simp only [List.length_drop, List.length_take]; rfl)) ?_; (with_reducible refine (quote_Escape.calls a0 t319 _ A9.out).mono ?_); rintro e w17 ⟨rfl, hb⟩; refine ⟨_, rfl, ?_⟩; have n0_ := Aside0.mk (below_step (by repeat (first | (with_reducible first | exact HB.out | apply below_alloc | apply pw_below_drewN | apply below_drew1) | exact HB.out)) hb); clear HB; have HB := n0_; clear n0_; (try clear hb); (try clear hb2); (try clear hk); (try clear hi)) | ((with_reducible refine gate_callee (f := 14) rfl ?_); refine goesL_ (some 27) rfl rfl Try.func14 (by kernel_rfl) rfl #[.string a1] rfl (by (try simp only [List.map_toArray, List.map_cons, List.map_nil]); first | done | rfl | (simp only [List.length_drop, List.length_take]; rfl)) ?_; (with_reducible refine (quote_Escape.calls a1 t320 _ A10.out).mono ?_); rintro e w18 ⟨rfl, hb⟩; refine ⟨_, rfl, ?_⟩; have n0_ := Aside0.mk (below_step (by repeat (first | (with_reducible first | exact HB.out | apply below_alloc | apply pw_below_drewN | apply below_drew1) | exact HB.out)) hb); clear HB; have HB := n0_; clear n0_; (try clear hb); (try clear hb2); (try clear hk); (try clear hi)) | ((with_reducible refine gate_callee (f := 14) rfl ?_); refine goesL_ (some 31) rfl rfl Try.func14 (by kernel_rfl) rfl #[.string (a0 ++ a1)] rfl (by (try simp only [List.map_toArray, List.map_cons, List.map_nil]); first | done | rfl | (simp only [List.length_drop, List.length_take]; rfl)) ?_; (with_reducible refine (quote_Escape.calls (a0 ++ a1) t321 _ A12.out).mono ?_); rintro e w19 ⟨rfl, hb⟩; refine ⟨_, rfl, ?_⟩; have n0_ := Aside0.mk (below_step (by repeat (first | (with_reducible first | exact HB.out | apply below_alloc | apply pw_below_drewN | apply below_drew1) | exact HB.out)) hb); clear HB; have HB := n0_; clear n0_; (try clear hb); (try clear hb2); (try clear hk); (try clear hi)) | ((with_reducible refine gate_callee (f := 27) rfl ?_); refine goesL_ (some 33) rfl rfl Try.func27 (by kernel_rfl) rfl #[.string a0, .string (⟨#[92]⟩ : ByteArray)] rfl (by (try simp only [List.map_toArray, List.map_cons, List.map_nil]); first | done | rfl | (simp only [List.length_drop, List.length_take]; rfl)) ?_; (with_reducible refine (strings_Count.calls a0 (⟨#[92]⟩ : ByteArray) t322 _ A13.out).mono ?_); rintro e w' ⟨rfl, ⟨nd, rfl⟩⟩; refine ⟨_, rfl, ?_⟩) | ((with_reducible refine gate_callee (f := 27) rfl ?_); refine goesL_ (some 35) rfl rfl Try.func27 (by kernel_rfl) rfl #[.string a0, .string (⟨#[93]⟩ : ByteArray)] rfl (by (try simp only [List.map_toArray, List.map_cons, List.map_nil]); first | done | rfl | (simp only [List.length_drop, List.length_take]; rfl)) ?_; (with_reducible refine (strings_Count.calls a0 (⟨#[93]⟩ : ByteArray) t323 _ A14.out).mono ?_); rintro e w' ⟨rfl, ⟨nd, rfl⟩⟩; refine ⟨_, rfl, ?_⟩) | ((with_reducible refine gate_callee (f := 27) rfl ?_); refine goesL_ (some 38) rfl rfl Try.func27 (by kernel_rfl) rfl #[.string a0, .string (⟨#[34]⟩ : ByteArray)] rfl (by (try simp only [List.map_toArray, List.map_cons, List.map_nil]); first | done | rfl | (simp only [List.length_drop, List.length_take]; rfl)) ?_; (with_reducible refine (strings_Count.calls a0 (⟨#[34]⟩ : ByteArray) t324 _ A15.out).mono ?_); rintro e w' ⟨rfl, ⟨nd, rfl⟩⟩; refine ⟨_, rfl, ?_⟩))
            (try simp only [Act.put, List.setIfInBounds_toArray, List.set_cons_zero, List.set_cons_succ])
            go_cut [53] (fun v53 wc => ∃ (kq : Nat) (x53_15 : Bool), v53 = .bool x53_15 ∧ Aside0 (gonglaw10_QuoteEscape.j1 kq a0 t319 x53_15 = some r) ∧ Aside0 (kq ≤ kj4) ∧ Aside0 (Below w.heap.size w wc))
            case first =>
              have H := HC16.out
              clear HC16
              by_cases c20 : t319.size + t320.size ≤ 9223372036854775807
              · rw [if_pos c20] at H
                have c20b0 := eq_true c20
                have c20b1 : decide (t319.size + t320.size ≤ 9223372036854775807) = true := decide_eq_true c20
                try have c20b2 : (9223372036854775807 < t319.size + t320.size) = False := eq_false (Nat.not_lt.2 c20)
                by_cases c21 : t321.toList = (t319 ++ t320).toList
                · rw [if_pos c21] at H
                  have c21b0 : (t321.toList == (t319 ++ t320).toList) = true := beq_iff_eq.mpr c21
                  have c21b1 : (t321.toList != (t319 ++ t320).toList) = false := bne_eq_false_iff_eq.mpr c21
                  clear c21
                  (first | rw [c21b0] | (simp only [i64_w, i32_w]; rw [c21b0]) | skip)
                  have H' := Aside0.mk H
                  clear H
                  go_wp2
                  go_meet
                  case rel => exact ⟨_, (((t319.size : Int) != (wrap64 ((a0.size : Int) + (wrap64 ((wrap64 (t322 + t323)) + t324)))))), (by first | rfl | (simp; done) | (simp [*]; done)), H', ⟨by have := HJ4.out; first | omega | exact Nat.le_refl _⟩, ⟨by repeat (first | (with_reducible first | exact HB.out | apply below_alloc | apply pw_below_drewN | apply below_drew1) | exact HB.out)⟩⟩
                · rw [if_neg c21] at H
                  have c21b0 : (t321.toList == (t319 ++ t320).toList) = false := beq_eq_false_iff_ne.mpr c21
                  have c21b1 : (t321.toList != (t319 ++ t320).toList) = true := bne_iff_ne.mpr c21
                  (first | rw [c21b0] | (simp only [i64_w, i32_w]; rw [c21b0]) | skip)
                  have H' := Aside0.mk H
                  clear H
                  go_wp2
                  go_meet
                  case rel => exact ⟨_, (true), (by first | rfl | (simp; done) | (simp [*]; done)), H', ⟨by have := HJ4.out; first | omega | exact Nat.le_refl _⟩, ⟨by repeat (first | (with_reducible first | exact HB.out | apply below_alloc | apply pw_below_drewN | apply below_drew1) | exact HB.out)⟩⟩
              · rw [if_neg c20] at H
                exact absurd H (by simp)
            case rest =>
              clear HC16
              try clear c1
              try clear c2
              try clear p2
              try clear c4
              try clear p6
              try clear c7
              try clear c7b0
              try clear c7b1
              try clear c8
              try clear c11
              try clear c11b0
              try clear c11b1
              try clear c11b2
              try clear c14
              try clear c20
              try clear c20b0
              try clear c20b1
              try clear c20b2
              try clear c21
              try clear c21b0
              try clear c21b1
              try clear p2
              obtain ⟨kq, x53_15, rfl, HA, HJ15, HB⟩ := hcut
              cases kq with
              | zero => exact absurd HA.out (by simp [gonglaw10_QuoteEscape.j1])
              | succ kj15 =>
                have H := HA.out
                clear HA
                simp only [gonglaw10_QuoteEscape.j1] at H
                by_cases c22 : x53_15 = true
                · subst c22
                  have H1 : (some false) = some r := by rw [if_pos rfl] at H; exact H
                  clear H
                  have H := H1
                  clear H1
                  obtain rfl := Option.some.inj H
                  go_wp2
                  go_ret
                  exact ⟨by first | rfl | (simp [errW_none, errW_some] <;> rfl) | (simp [*, errW_none, errW_some] <;> rfl), by repeat (first | (with_reducible first | exact HB.out | apply below_alloc | apply pw_below_drewN | apply below_drew1) | exact HB.out)⟩
                · replace c22 := Bool.eq_false_iff.mpr c22
                  subst c22
                  have H1 : (if 6 + t319.size ≤ 9223372036854775807 then (if ((⟨#[91, 105, 32, 110, 61, 34]⟩ : ByteArray) ++ t319).size + 2 ≤ 9223372036854775807 then ((quote_Parse.f kj15 (((⟨#[91, 105, 32, 110, 61, 34]⟩ : ByteArray) ++ t319) ++ (⟨#[34, 93]⟩ : ByteArray))).bind fun bt325 => ((utf_Check.f kj15 a0).bind fun t330 => (if t330 = 0 then ((quote_Get.f bt325.1 (⟨#[105]⟩ : ByteArray) (⟨#[110]⟩ : ByteArray)).bind fun bt331 => (if bt325.2.2 = 0 then (if bt325.2.1.toList = ([] : List UInt8) then (if bt331.2 = true then (some (bt331.1.toList == a0.toList)) else (some false)) else (some false)) else (some false))) else (if bt325.2.2 = 100 then (some ((bt325.1.length : Int) == 0)) else (some false))))) else (none)) else (none)) = some r := by rw [if_neg (show ¬ (false = true) by decide)] at H; exact H
                  clear H
                  have H := H1
                  clear H1
                  by_cases c23 : 6 + t319.size ≤ 9223372036854775807
                  · rw [if_pos c23] at H
                    have c23b0 := eq_true c23
                    have c23b1 : decide (6 + t319.size ≤ 9223372036854775807) = true := decide_eq_true c23
                    try have c23b2 : (9223372036854775807 < 6 + t319.size) = False := eq_false (Nat.not_lt.2 c23)
                    by_cases c24 : ((⟨#[91, 105, 32, 110, 61, 34]⟩ : ByteArray) ++ t319).size + 2 ≤ 9223372036854775807
                    · rw [if_pos c24] at H
                      have c24b0 := eq_true c24
                      have c24b1 : decide (((⟨#[91, 105, 32, 110, 61, 34]⟩ : ByteArray) ++ t319).size + 2 ≤ 9223372036854775807) = true := decide_eq_true c24
                      try have c24b2 : (9223372036854775807 < ((⟨#[91, 105, 32, 110, 61, 34]⟩ : ByteArray) ++ t319).size + 2) = False := eq_false (Nat.not_lt.2 c24)
                      try have c24s2 : (9223372036854775807 < 6 + (t319).size + 2) = False := eq_false (by have z_ := c24; simp only [ByteArray.size_append] at z_; have y0_ : (⟨#[91, 105, 32, 110, 61, 34]⟩ : ByteArray).size = 6 := rfl; omega)
                      replace H := Option.bind_eq_some_iff.mp H
                      obtain ⟨⟨t325, t326, t327⟩, A250, H⟩ := H
                      replace H : ((utf_Check.f kj15 a0).bind fun t330 => (if t330 = 0 then ((quote_Get.f t325 (⟨#[105]⟩ : ByteArray) (⟨#[110]⟩ : ByteArray)).bind fun bt331 => (if t327 = 0 then (if t326.toList = ([] : List UInt8) then (if bt331.2 = true then (some (bt331.1.toList == a0.toList)) else (some false)) else (some false)) else (some false))) else (if t327 = 100 then (some ((t325.length : Int) == 0)) else (some false)))) = some r := H
                      have A25 := Aside0.mk A250
                      clear A250
                      replace H := Option.bind_eq_some_iff.mp H
                      obtain ⟨t330, A260, H⟩ := H
                      replace H : (if t330 = 0 then ((quote_Get.f t325 (⟨#[105]⟩ : ByteArray) (⟨#[110]⟩ : ByteArray)).bind fun bt331 => (if t327 = 0 then (if t326.toList = ([] : List UInt8) then (if bt331.2 = true then (some (bt331.1.toList == a0.toList)) else (some false)) else (some false)) else (some false))) else (if t327 = 100 then (some ((t325.length : Int) == 0)) else (some false))) = some r := H
                      have A26 := Aside0.mk A260
                      clear A260
                      by_cases c27 : t330 = 0
                      · rw [if_pos c27] at H
                        have c27b0 : (t330 == 0) = true := beq_iff_eq.mpr c27
                        have c27b1 : (t330 != 0) = false := bne_eq_false_iff_eq.mpr c27
                        clear c27
                        replace H := Option.bind_eq_some_iff.mp H
                        obtain ⟨⟨t331, t332⟩, A280, H⟩ := H
                        replace H : (if t327 = 0 then (if t326.toList = ([] : List UInt8) then (if t332 = true then (some (t331.toList == a0.toList)) else (some false)) else (some false)) else (some false)) = some r := H
                        have A28 := Aside0.mk A280
                        clear A280
                        by_cases c29 : t327 = 0
                        · rw [if_pos c29] at H
                          have c29b0 : (t327 == 0) = true := beq_iff_eq.mpr c29
                          have c29b1 : (t327 != 0) = false := bne_eq_false_iff_eq.mpr c29
                          clear c29
                          by_cases c30 : t326.toList = ([] : List UInt8)
                          · rw [if_pos c30] at H
                            have c30b0 : (t326.toList == ([] : List UInt8)) = true := beq_iff_eq.mpr c30
                            have c30b1 : (t326.toList != ([] : List UInt8)) = false := bne_eq_false_iff_eq.mpr c30
                            clear c30
                            by_cases c31 : t332 = true
                            · subst c31
                              have H1 : (some (t331.toList == a0.toList)) = some r := by rw [if_pos rfl] at H; exact H
                              clear H
                              have H := H1
                              clear H1
                              obtain rfl := Option.some.inj H
                              go_wp2_with (first | ((with_reducible refine gate_callee (f := 9) rfl ?_); refine goesL_ (some 58) rfl rfl Try.func9 (by kernel_rfl) rfl #[.string (((⟨#[91, 105, 32, 110, 61, 34]⟩ : ByteArray) ++ t319) ++ (⟨#[34, 93]⟩ : ByteArray))] rfl (by (try simp only [List.map_toArray, List.map_cons, List.map_nil]); first | done | rfl | (simp only [List.length_drop, List.length_take]; rfl)) ?_; (with_reducible refine (quote_Parse.calls kj15 (((⟨#[91, 105, 32, 110, 61, 34]⟩ : ByteArray) ++ t319) ++ (⟨#[34, 93]⟩ : ByteArray)) t325 t326 t327 _ A25.out).mono ?_); rintro e w32 ⟨v328, rfl, ho0, hb⟩; refine ⟨_, rfl, ?_⟩; have n0_ := Aside0.mk (Kd.S_lower ho0 (below_size (by repeat (first | (with_reducible first | exact HB.out | apply below_alloc | apply pw_below_drewN | apply below_drew1) | exact HB.out)))); have n1_ := Aside0.mk (below_step (by repeat (first | (with_reducible first | exact HB.out | apply below_alloc | apply pw_below_drewN | apply below_drew1) | exact HB.out)) hb); clear HB; have HO329 := n0_; have HB := n1_; clear n0_ n1_; (try clear hb); (try clear hb2); (try clear hk); (try clear hi); (try clear ho0)) | ((with_reducible refine gate_callee (f := 28) rfl ?_); refine goesL_ (some 63) rfl rfl Try.func28 (by kernel_rfl) rfl #[.string a0] rfl (by (try simp only [List.map_toArray, List.map_cons, List.map_nil]); first | done | rfl | (simp only [List.length_drop, List.length_take]; rfl)) ?_; (with_reducible refine (utf_Check.calls kj15 a0 t330 _ A26.out).mono ?_); rintro e w33 ⟨rfl, hb⟩; refine ⟨_, rfl, ?_⟩; have n0_ := Aside0.mk (Kd.S_below (by (with_reducible repeat (first | apply Kd.S_alloc | apply Kd.S_drewN | apply Kd.S_drew)); exact HO329.out) hb); have n1_ := Aside0.mk (below_step (by repeat (first | (with_reducible first | exact HB.out | apply below_alloc | apply pw_below_drewN | apply below_drew1) | exact HB.out)) hb); clear HO329; clear HB; have HO329 := n0_; have HB := n1_; clear n0_ n1_; (try clear hb); (try clear hb2); (try clear hk); (try clear hi); obtain ⟨Ao34, co34, eo34⟩ := Kd.S_slice HO329.out; subst eo34) | ((with_reducible refine gate_callee (f := 17) rfl ?_); refine goesL_ (some 74) rfl rfl Try.func17 (by kernel_rfl) rfl #[.slice Ao34 t325.length co34, .string (⟨#[105]⟩ : ByteArray), .string (⟨#[110]⟩ : ByteArray)] rfl (by (try simp only [List.map_toArray, List.map_cons, List.map_nil]); first | done | rfl | (simp only [List.length_drop, List.length_take]; rfl)) ?_; (with_reducible refine (quote_Get.calls _ _ t325 (⟨#[105]⟩ : ByteArray) (⟨#[110]⟩ : ByteArray) t331 true _ ?side1 ?side2 A28.out).mono ?_); (case side1 => repeat (first | exact (Kd.S_reads' HO329.out).2.2 | (with_reducible refine Kd.C_alloc ?_ _) | (with_reducible refine Kd.C_drewN ?_ _) | (with_reducible refine Kd.C_drew ?_))); (case side2 => exact (Kd.S_reads' HO329.out).2.1); rintro e w35 ⟨rfl, hb⟩; refine ⟨_, rfl, ?_⟩; have n0_ := Aside0.mk (Kd.S_below (by (with_reducible repeat (first | apply Kd.S_alloc | apply Kd.S_drewN | apply Kd.S_drew)); exact HO329.out) hb); have n1_ := Aside0.mk (below_step (by repeat (first | (with_reducible first | exact HB.out | apply below_alloc | apply pw_below_drewN | apply below_drew1) | exact HB.out)) hb); clear HO329; clear HB; have HO329 := n0_; have HB := n1_; clear n0_ n1_; (try clear hb); (try clear hb2); (try clear hk); (try clear hi)))
                              go_ret
                              exact ⟨by first | rfl | (simp [errW_none, errW_some] <;> rfl) | (simp [*, errW_none, errW_some] <;> rfl), by repeat (first | (with_reducible first | exact HB.out | apply below_alloc | apply pw_below_drewN | apply below_drew1) | exact HB.out)⟩
                            · replace c31 := Bool.eq_false_iff.mpr c31
                              subst c31
                              have H1 : (some false) = some r := by rw [if_neg (show ¬ (false = true) by decide)] at H; exact H
                              clear H
                              have H := H1
                              clear H1
                              obtain rfl := Option.some.inj H
                              go_wp2_with (first | ((with_reducible refine gate_callee (f := 9) rfl ?_); refine goesL_ (some 58) rfl rfl Try.func9 (by kernel_rfl) rfl #[.string (((⟨#[91, 105, 32, 110, 61, 34]⟩ : ByteArray) ++ t319) ++ (⟨#[34, 93]⟩ : ByteArray))] rfl (by (try simp only [List.map_toArray, List.map_cons, List.map_nil]); first | done | rfl | (simp only [List.length_drop, List.length_take]; rfl)) ?_; (with_reducible refine (quote_Parse.calls kj15 (((⟨#[91, 105, 32, 110, 61, 34]⟩ : ByteArray) ++ t319) ++ (⟨#[34, 93]⟩ : ByteArray)) t325 t326 t327 _ A25.out).mono ?_); rintro e w36 ⟨v328, rfl, ho0, hb⟩; refine ⟨_, rfl, ?_⟩; have n0_ := Aside0.mk (Kd.S_lower ho0 (below_size (by repeat (first | (with_reducible first | exact HB.out | apply below_alloc | apply pw_below_drewN | apply below_drew1) | exact HB.out)))); have n1_ := Aside0.mk (below_step (by repeat (first | (with_reducible first | exact HB.out | apply below_alloc | apply pw_below_drewN | apply below_drew1) | exact HB.out)) hb); clear HB; have HO329 := n0_; have HB := n1_; clear n0_ n1_; (try clear hb); (try clear hb2); (try clear hk); (try clear hi); (try clear ho0)) | ((with_reducible refine gate_callee (f := 28) rfl ?_); refine goesL_ (some 63) rfl rfl Try.func28 (by kernel_rfl) rfl #[.string a0] rfl (by (try simp only [List.map_toArray, List.map_cons, List.map_nil]); first | done | rfl | (simp only [List.length_drop, List.length_take]; rfl)) ?_; (with_reducible refine (utf_Check.calls kj15 a0 t330 _ A26.out).mono ?_); rintro e w37 ⟨rfl, hb⟩; refine ⟨_, rfl, ?_⟩; have n0_ := Aside0.mk (Kd.S_below (by (with_reducible repeat (first | apply Kd.S_alloc | apply Kd.S_drewN | apply Kd.S_drew)); exact HO329.out) hb); have n1_ := Aside0.mk (below_step (by repeat (first | (with_reducible first | exact HB.out | apply below_alloc | apply pw_below_drewN | apply below_drew1) | exact HB.out)) hb); clear HO329; clear HB; have HO329 := n0_; have HB := n1_; clear n0_ n1_; (try clear hb); (try clear hb2); (try clear hk); (try clear hi); obtain ⟨Ao38, co38, eo38⟩ := Kd.S_slice HO329.out; subst eo38) | ((with_reducible refine gate_callee (f := 17) rfl ?_); refine goesL_ (some 74) rfl rfl Try.func17 (by kernel_rfl) rfl #[.slice Ao38 t325.length co38, .string (⟨#[105]⟩ : ByteArray), .string (⟨#[110]⟩ : ByteArray)] rfl (by (try simp only [List.map_toArray, List.map_cons, List.map_nil]); first | done | rfl | (simp only [List.length_drop, List.length_take]; rfl)) ?_; (with_reducible refine (quote_Get.calls _ _ t325 (⟨#[105]⟩ : ByteArray) (⟨#[110]⟩ : ByteArray) t331 false _ ?side1 ?side2 A28.out).mono ?_); (case side1 => repeat (first | exact (Kd.S_reads' HO329.out).2.2 | (with_reducible refine Kd.C_alloc ?_ _) | (with_reducible refine Kd.C_drewN ?_ _) | (with_reducible refine Kd.C_drew ?_))); (case side2 => exact (Kd.S_reads' HO329.out).2.1); rintro e w39 ⟨rfl, hb⟩; refine ⟨_, rfl, ?_⟩; have n0_ := Aside0.mk (Kd.S_below (by (with_reducible repeat (first | apply Kd.S_alloc | apply Kd.S_drewN | apply Kd.S_drew)); exact HO329.out) hb); have n1_ := Aside0.mk (below_step (by repeat (first | (with_reducible first | exact HB.out | apply below_alloc | apply pw_below_drewN | apply below_drew1) | exact HB.out)) hb); clear HO329; clear HB; have HO329 := n0_; have HB := n1_; clear n0_ n1_; (try clear hb); (try clear hb2); (try clear hk); (try clear hi)))
                              go_ret
                              exact ⟨by first | rfl | (simp [errW_none, errW_some] <;> rfl) | (simp [*, errW_none, errW_some] <;> rfl), by repeat (first | (with_reducible first | exact HB.out | apply below_alloc | apply pw_below_drewN | apply below_drew1) | exact HB.out)⟩
                          · rw [if_neg c30] at H
                            have c30b0 : (t326.toList == ([] : List UInt8)) = false := beq_eq_false_iff_ne.mpr c30
                            have c30b1 : (t326.toList != ([] : List UInt8)) = true := bne_iff_ne.mpr c30
                            obtain rfl := Option.some.inj H
                            go_wp2_with (first | ((with_reducible refine gate_callee (f := 9) rfl ?_); refine goesL_ (some 58) rfl rfl Try.func9 (by kernel_rfl) rfl #[.string (((⟨#[91, 105, 32, 110, 61, 34]⟩ : ByteArray) ++ t319) ++ (⟨#[34, 93]⟩ : ByteArray))] rfl (by (try simp only [List.map_toArray, List.map_cons, List.map_nil]); first | done | rfl | (simp only [List.length_drop, List.length_take]; rfl)) ?_; (with_reducible refine (quote_Parse.calls kj15 (((⟨#[91, 105, 32, 110, 61, 34]⟩ : ByteArray) ++ t319) ++ (⟨#[34, 93]⟩ : ByteArray)) t325 t326 t327 _ A25.out).mono ?_); rintro e w40 ⟨v328, rfl, ho0, hb⟩; refine ⟨_, rfl, ?_⟩; have n0_ := Aside0.mk (Kd.S_lower ho0 (below_size (by repeat (first | (with_reducible first | exact HB.out | apply below_alloc | apply pw_below_drewN | apply below_drew1) | exact HB.out)))); have n1_ := Aside0.mk (below_step (by repeat (first | (with_reducible first | exact HB.out | apply below_alloc | apply pw_below_drewN | apply below_drew1) | exact HB.out)) hb); clear HB; have HO329 := n0_; have HB := n1_; clear n0_ n1_; (try clear hb); (try clear hb2); (try clear hk); (try clear hi); (try clear ho0)) | ((with_reducible refine gate_callee (f := 28) rfl ?_); refine goesL_ (some 63) rfl rfl Try.func28 (by kernel_rfl) rfl #[.string a0] rfl (by (try simp only [List.map_toArray, List.map_cons, List.map_nil]); first | done | rfl | (simp only [List.length_drop, List.length_take]; rfl)) ?_; (with_reducible refine (utf_Check.calls kj15 a0 t330 _ A26.out).mono ?_); rintro e w41 ⟨rfl, hb⟩; refine ⟨_, rfl, ?_⟩; have n0_ := Aside0.mk (Kd.S_below (by (with_reducible repeat (first | apply Kd.S_alloc | apply Kd.S_drewN | apply Kd.S_drew)); exact HO329.out) hb); have n1_ := Aside0.mk (below_step (by repeat (first | (with_reducible first | exact HB.out | apply below_alloc | apply pw_below_drewN | apply below_drew1) | exact HB.out)) hb); clear HO329; clear HB; have HO329 := n0_; have HB := n1_; clear n0_ n1_; (try clear hb); (try clear hb2); (try clear hk); (try clear hi); obtain ⟨Ao42, co42, eo42⟩ := Kd.S_slice HO329.out; subst eo42) | ((with_reducible refine gate_callee (f := 17) rfl ?_); refine goesL_ (some 74) rfl rfl Try.func17 (by kernel_rfl) rfl #[.slice Ao42 t325.length co42, .string (⟨#[105]⟩ : ByteArray), .string (⟨#[110]⟩ : ByteArray)] rfl (by (try simp only [List.map_toArray, List.map_cons, List.map_nil]); first | done | rfl | (simp only [List.length_drop, List.length_take]; rfl)) ?_; (with_reducible refine (quote_Get.calls _ _ t325 (⟨#[105]⟩ : ByteArray) (⟨#[110]⟩ : ByteArray) t331 t332 _ ?side1 ?side2 A28.out).mono ?_); (case side1 => repeat (first | exact (Kd.S_reads' HO329.out).2.2 | (with_reducible refine Kd.C_alloc ?_ _) | (with_reducible refine Kd.C_drewN ?_ _) | (with_reducible refine Kd.C_drew ?_))); (case side2 => exact (Kd.S_reads' HO329.out).2.1); rintro e w43 ⟨rfl, hb⟩; refine ⟨_, rfl, ?_⟩; have n0_ := Aside0.mk (Kd.S_below (by (with_reducible repeat (first | apply Kd.S_alloc | apply Kd.S_drewN | apply Kd.S_drew)); exact HO329.out) hb); have n1_ := Aside0.mk (below_step (by repeat (first | (with_reducible first | exact HB.out | apply below_alloc | apply pw_below_drewN | apply below_drew1) | exact HB.out)) hb); clear HO329; clear HB; have HO329 := n0_; have HB := n1_; clear n0_ n1_; (try clear hb); (try clear hb2); (try clear hk); (try clear hi)))
                            go_ret
                            exact ⟨by first | rfl | (simp [errW_none, errW_some] <;> rfl) | (simp [*, errW_none, errW_some] <;> rfl), by repeat (first | (with_reducible first | exact HB.out | apply below_alloc | apply pw_below_drewN | apply below_drew1) | exact HB.out)⟩
                        · rw [if_neg c29] at H
                          have c29b0 : (t327 == 0) = false := beq_eq_false_iff_ne.mpr c29
                          have c29b1 : (t327 != 0) = true := bne_iff_ne.mpr c29
                          obtain rfl := Option.some.inj H
                          go_wp2_with (first | ((with_reducible refine gate_callee (f := 9) rfl ?_); refine goesL_ (some 58) rfl rfl Try.func9 (by kernel_rfl) rfl #[.string (((⟨#[91, 105, 32, 110, 61, 34]⟩ : ByteArray) ++ t319) ++ (⟨#[34, 93]⟩ : ByteArray))] rfl (by (try simp only [List.map_toArray, List.map_cons, List.map_nil]); first | done | rfl | (simp only [List.length_drop, List.length_take]; rfl)) ?_; (with_reducible refine (quote_Parse.calls kj15 (((⟨#[91, 105, 32, 110, 61, 34]⟩ : ByteArray) ++ t319) ++ (⟨#[34, 93]⟩ : ByteArray)) t325 t326 t327 _ A25.out).mono ?_); rintro e w44 ⟨v328, rfl, ho0, hb⟩; refine ⟨_, rfl, ?_⟩; have n0_ := Aside0.mk (Kd.S_lower ho0 (below_size (by repeat (first | (with_reducible first | exact HB.out | apply below_alloc | apply pw_below_drewN | apply below_drew1) | exact HB.out)))); have n1_ := Aside0.mk (below_step (by repeat (first | (with_reducible first | exact HB.out | apply below_alloc | apply pw_below_drewN | apply below_drew1) | exact HB.out)) hb); clear HB; have HO329 := n0_; have HB := n1_; clear n0_ n1_; (try clear hb); (try clear hb2); (try clear hk); (try clear hi); (try clear ho0)) | ((with_reducible refine gate_callee (f := 28) rfl ?_); refine goesL_ (some 63) rfl rfl Try.func28 (by kernel_rfl) rfl #[.string a0] rfl (by (try simp only [List.map_toArray, List.map_cons, List.map_nil]); first | done | rfl | (simp only [List.length_drop, List.length_take]; rfl)) ?_; (with_reducible refine (utf_Check.calls kj15 a0 t330 _ A26.out).mono ?_); rintro e w45 ⟨rfl, hb⟩; refine ⟨_, rfl, ?_⟩; have n0_ := Aside0.mk (Kd.S_below (by (with_reducible repeat (first | apply Kd.S_alloc | apply Kd.S_drewN | apply Kd.S_drew)); exact HO329.out) hb); have n1_ := Aside0.mk (below_step (by repeat (first | (with_reducible first | exact HB.out | apply below_alloc | apply pw_below_drewN | apply below_drew1) | exact HB.out)) hb); clear HO329; clear HB; have HO329 := n0_; have HB := n1_; clear n0_ n1_; (try clear hb); (try clear hb2); (try clear hk); (try clear hi); obtain ⟨Ao46, co46, eo46⟩ := Kd.S_slice HO329.out; subst eo46) | ((with_reducible refine gate_callee (f := 17) rfl ?_); refine goesL_ (some 74) rfl rfl Try.func17 (by kernel_rfl) rfl #[.slice Ao46 t325.length co46, .string (⟨#[105]⟩ : ByteArray), .string (⟨#[110]⟩ : ByteArray)] rfl (by (try simp only [List.map_toArray, List.map_cons, List.map_nil]); first | done | rfl | (simp only [List.length_drop, List.length_take]; rfl)) ?_; (with_reducible refine (quote_Get.calls _ _ t325 (⟨#[105]⟩ : ByteArray) (⟨#[110]⟩ : ByteArray) t331 t332 _ ?side1 ?side2 A28.out).mono ?_); (case side1 => repeat (first | exact (Kd.S_reads' HO329.out).2.2 | (with_reducible refine Kd.C_alloc ?_ _) | (with_reducible refine Kd.C_drewN ?_ _) | (with_reducible refine Kd.C_drew ?_))); (case side2 => exact (Kd.S_reads' HO329.out).2.1); rintro e w47 ⟨rfl, hb⟩; refine ⟨_, rfl, ?_⟩; have n0_ := Aside0.mk (Kd.S_below (by (with_reducible repeat (first | apply Kd.S_alloc | apply Kd.S_drewN | apply Kd.S_drew)); exact HO329.out) hb); have n1_ := Aside0.mk (below_step (by repeat (first | (with_reducible first | exact HB.out | apply below_alloc | apply pw_below_drewN | apply below_drew1) | exact HB.out)) hb); clear HO329; clear HB; have HO329 := n0_; have HB := n1_; clear n0_ n1_; (try clear hb); (try clear hb2); (try clear hk); (try clear hi)))
                          go_ret
                          exact ⟨by first | rfl | (simp [errW_none, errW_some] <;> rfl) | (simp [*, errW_none, errW_some] <;> rfl), by repeat (first | (with_reducible first | exact HB.out | apply below_alloc | apply pw_below_drewN | apply below_drew1) | exact HB.out)⟩
                      · rw [if_neg c27] at H
                        have c27b0 : (t330 == 0) = false := beq_eq_false_iff_ne.mpr c27
                        have c27b1 : (t330 != 0) = true := bne_iff_ne.mpr c27
                        by_cases c48 : t327 = 100
                        · rw [if_pos c48] at H
                          have c48b0 : (t327 == 100) = true := beq_iff_eq.mpr c48
                          have c48b1 : (t327 != 100) = false := bne_eq_false_iff_eq.mpr c48
                          clear c48
                          obtain rfl := Option.some.inj H
                          go_wp2_with (first | ((with_reducible refine gate_callee (f := 9) rfl ?_); refine goesL_ (some 58) rfl rfl Try.func9 (by kernel_rfl) rfl #[.string (((⟨#[91, 105, 32, 110, 61, 34]⟩ : ByteArray) ++ t319) ++ (⟨#[34, 93]⟩ : ByteArray))] rfl (by (try simp only [List.map_toArray, List.map_cons, List.map_nil]); first | done | rfl | (simp only [List.length_drop, List.length_take]; rfl)) ?_; (with_reducible refine (quote_Parse.calls kj15 (((⟨#[91, 105, 32, 110, 61, 34]⟩ : ByteArray) ++ t319) ++ (⟨#[34, 93]⟩ : ByteArray)) t325 t326 t327 _ A25.out).mono ?_); rintro e w49 ⟨v328, rfl, ho0, hb⟩; refine ⟨_, rfl, ?_⟩; have n0_ := Aside0.mk (Kd.S_lower ho0 (below_size (by repeat (first | (with_reducible first | exact HB.out | apply below_alloc | apply pw_below_drewN | apply below_drew1) | exact HB.out)))); have n1_ := Aside0.mk (below_step (by repeat (first | (with_reducible first | exact HB.out | apply below_alloc | apply pw_below_drewN | apply below_drew1) | exact HB.out)) hb); clear HB; have HO329 := n0_; have HB := n1_; clear n0_ n1_; (try clear hb); (try clear hb2); (try clear hk); (try clear hi); (try clear ho0)) | ((with_reducible refine gate_callee (f := 28) rfl ?_); refine goesL_ (some 63) rfl rfl Try.func28 (by kernel_rfl) rfl #[.string a0] rfl (by (try simp only [List.map_toArray, List.map_cons, List.map_nil]); first | done | rfl | (simp only [List.length_drop, List.length_take]; rfl)) ?_; (with_reducible refine (utf_Check.calls kj15 a0 t330 _ A26.out).mono ?_); rintro e w50 ⟨rfl, hb⟩; refine ⟨_, rfl, ?_⟩; have n0_ := Aside0.mk (Kd.S_below (by (with_reducible repeat (first | apply Kd.S_alloc | apply Kd.S_drewN | apply Kd.S_drew)); exact HO329.out) hb); have n1_ := Aside0.mk (below_step (by repeat (first | (with_reducible first | exact HB.out | apply below_alloc | apply pw_below_drewN | apply below_drew1) | exact HB.out)) hb); clear HO329; clear HB; have HO329 := n0_; have HB := n1_; clear n0_ n1_; (try clear hb); (try clear hb2); (try clear hk); (try clear hi); obtain ⟨Ao51, co51, eo51⟩ := Kd.S_slice HO329.out; subst eo51))
                          go_ret
                          exact ⟨by first | rfl | (simp [errW_none, errW_some] <;> rfl) | (simp [*, errW_none, errW_some] <;> rfl), by repeat (first | (with_reducible first | exact HB.out | apply below_alloc | apply pw_below_drewN | apply below_drew1) | exact HB.out)⟩
                        · rw [if_neg c48] at H
                          have c48b0 : (t327 == 100) = false := beq_eq_false_iff_ne.mpr c48
                          have c48b1 : (t327 != 100) = true := bne_iff_ne.mpr c48
                          obtain rfl := Option.some.inj H
                          go_wp2_with (first | ((with_reducible refine gate_callee (f := 9) rfl ?_); refine goesL_ (some 58) rfl rfl Try.func9 (by kernel_rfl) rfl #[.string (((⟨#[91, 105, 32, 110, 61, 34]⟩ : ByteArray) ++ t319) ++ (⟨#[34, 93]⟩ : ByteArray))] rfl (by (try simp only [List.map_toArray, List.map_cons, List.map_nil]); first | done | rfl | (simp only [List.length_drop, List.length_take]; rfl)) ?_; (with_reducible refine (quote_Parse.calls kj15 (((⟨#[91, 105, 32, 110, 61, 34]⟩ : ByteArray) ++ t319) ++ (⟨#[34, 93]⟩ : ByteArray)) t325 t326 t327 _ A25.out).mono ?_); rintro e w52 ⟨v328, rfl, ho0, hb⟩; refine ⟨_, rfl, ?_⟩; have n0_ := Aside0.mk (Kd.S_lower ho0 (below_size (by repeat (first | (with_reducible first | exact HB.out | apply below_alloc | apply pw_below_drewN | apply below_drew1) | exact HB.out)))); have n1_ := Aside0.mk (below_step (by repeat (first | (with_reducible first | exact HB.out | apply below_alloc | apply pw_below_drewN | apply below_drew1) | exact HB.out)) hb); clear HB; have HO329 := n0_; have HB := n1_; clear n0_ n1_; (try clear hb); (try clear hb2); (try clear hk); (try clear hi); (try clear ho0)) | ((with_reducible refine gate_callee (f := 28) rfl ?_); refine goesL_ (some 63) rfl rfl Try.func28 (by kernel_rfl) rfl #[.string a0] rfl (by (try simp only [List.map_toArray, List.map_cons, List.map_nil]); first | done | rfl | (simp only [List.length_drop, List.length_take]; rfl)) ?_; (with_reducible refine (utf_Check.calls kj15 a0 t330 _ A26.out).mono ?_); rintro e w53 ⟨rfl, hb⟩; refine ⟨_, rfl, ?_⟩; have n0_ := Aside0.mk (Kd.S_below (by (with_reducible repeat (first | apply Kd.S_alloc | apply Kd.S_drewN | apply Kd.S_drew)); exact HO329.out) hb); have n1_ := Aside0.mk (below_step (by repeat (first | (with_reducible first | exact HB.out | apply below_alloc | apply pw_below_drewN | apply below_drew1) | exact HB.out)) hb); clear HO329; clear HB; have HO329 := n0_; have HB := n1_; clear n0_ n1_; (try clear hb); (try clear hb2); (try clear hk); (try clear hi)))
                          go_ret
                          exact ⟨by first | rfl | (simp [errW_none, errW_some] <;> rfl) | (simp [*, errW_none, errW_some] <;> rfl), by repeat (first | (with_reducible first | exact HB.out | apply below_alloc | apply pw_below_drewN | apply below_drew1) | exact HB.out)⟩
                    · rw [if_neg c24] at H
                      exact absurd H (by simp)
                  · rw [if_neg c23] at H
                    exact absurd H (by simp)
          · rw [if_neg c11] at H
            exact absurd H (by simp)
  · replace c4 := Bool.eq_false_iff.mpr c4
    subst c4
    have H1 : (some false) = some r := by rw [if_neg (show ¬ (false = true) by decide)] at H; exact H
    clear H
    have H := H1
    clear H1
    obtain rfl := Option.some.inj H
    go_enter Try.func7, Try.ntmps7
    go_wp2_with (first | ((with_reducible refine gate_callee (f := 8) rfl ?_); refine goesL_ (some 14) rfl rfl Try.func8 (by kernel_rfl) rfl #[] rfl (by (try simp only [List.map_toArray, List.map_cons, List.map_nil]); first | done | rfl | (simp only [List.length_drop, List.length_take]; rfl)) ?_; (with_reducible refine (gonglaw10_works.calls k  false _ A3.out).mono ?_); rintro e w54 ⟨rfl, hb⟩; refine ⟨_, rfl, ?_⟩; have n0_ := Aside0.mk (below_step (by repeat (first | (with_reducible first | exact HB.out | apply below_alloc | apply pw_below_drewN | apply below_drew1) | exact HB.out)) hb); clear HB; have HB := n0_; clear n0_; (try clear hb); (try clear hb2); (try clear hk); (try clear hi)))
    go_ret
    exact ⟨by first | rfl | (simp [errW_none, errW_some] <;> rfl) | (simp [*, errW_none, errW_some] <;> rfl), by repeat (first | (with_reducible first | exact HB.out | apply below_alloc | apply pw_below_drewN | apply below_drew1) | exact HB.out)⟩

/-- THE ONE PURE STATEMENT of gonglaw10_QuoteEscape: yours. -/
def gonglaw10_QuoteEscape.Pure : Prop := ∀ (a0 : ByteArray) (a1 : ByteArray), a0.size ≤ 140737488351232 → a1.size ≤ 140737488351232 → ∃ k, gonglaw10_QuoteEscape.f k a0 a1 = some true
theorem gonglaw10_QuoteEscape.walk (P : gonglaw10_QuoteEscape.Pure) (a0 : ByteArray) (a1 : ByteArray) (w : World) (w0 : a0.size ≤ 140737488351232) (w1 : a1.size ≤ 140737488351232) :
    Calls Try.prog 7 #[.string a0, .string a1] w fun e w' => e = .returned (.bool true) ∧ Below w.heap.size w w' := by
  obtain ⟨k, h⟩ := P a0 a1 w0 w1
  refine (gonglaw10_QuoteEscape.calls k a0 a1 true w h).mono ?_
  rintro e w' ⟨rfl, hd⟩
  exact ⟨rfl, hd⟩

end Go.Proofs.Ytgopphglkjdcaaa.Px
