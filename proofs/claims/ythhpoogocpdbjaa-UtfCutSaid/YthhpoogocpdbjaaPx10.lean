-- Laid by wip/hprint.py: the kit's print of the translation, turned in places, beside contracts that this session wrote by hand; Lean checks all of it.
import Derived.Test.YthhpoogocpdbjaaPx0
import Derived.Test.YthhpoogocpdbjaaPx1
import Derived.Test.YthhpoogocpdbjaaPx2
import Derived.Test.YthhpoogocpdbjaaPx8
import Derived.Test.YthhpoogocpdbjaaPx9
namespace Go.Proofs.Ythhpoogocpdbjaa.Px
open Go.RowKit Go.Proofs.YthhpoogocpdbjaaW.PrintWords Go.Proofs.YthhpoogocpdbjaaW.PrintLast Go.Proofs.YthhpoogocpdbjaaW.PrintMore
attribute [local go_sem] max2_int min2_int max_two min_two max_three min_three max_four min_four   -- for this text's walks alone
set_option linter.unusedVariables false
set_option linter.unusedSimpArgs false

/-! ### gonglaw04_UtfCut: function 6 -/
mutual
def gonglaw04_UtfCut.j0 : Nat → ByteArray → ByteArray → Int → Bool → Option (Bool)
  | 0, _, _, _, _ => none
  | k + 1, x0, x1, x2, x21 => if x21 = true then (some true) else ((utf_Check.f k x0).bind fun t227 => (if t227 = 0 then ((utf_Check.f k x1).bind fun t228 => (gonglaw04_UtfCut.j1 k x0 x1 x2 (t228 != 0))) else (gonglaw04_UtfCut.j1 k x0 x1 x2 true)))
def gonglaw04_UtfCut.j1 : Nat → ByteArray → ByteArray → Int → Bool → Option (Bool)
  | 0, _, _, _, _ => none
  | k + 1, x0, x1, x2, x29 => if x29 = true then (some true) else ((gongbook_Below.f x2 700).bind fun t229 => (if x0.size + x1.size ≤ 9223372036854775807 then ((utf_Cut.f k (x0 ++ x1) t229).bind fun bt230 => ((utf_Check.f k (x0 ++ x1)).bind fun t232 => (if t232 = 0 then (if bt230.2 = 0 then (if (bt230.1.size : Int) > t229 then (gonglaw04_UtfCut.j2 k x0 x1 t229 bt230.1 true) else ((strings_HasPrefix.f (x0 ++ x1) bt230.1).bind fun t233 => (if t233 = true then ((utf_Check.f k bt230.1).bind fun t234 => (gonglaw04_UtfCut.j2 k x0 x1 t229 bt230.1 (t234 != 0))) else (gonglaw04_UtfCut.j2 k x0 x1 t229 bt230.1 true)))) else (gonglaw04_UtfCut.j2 k x0 x1 t229 bt230.1 true)) else (gonglaw04_UtfCut.j2 k x0 x1 t229 bt230.1 true)))) else (none)))
def gonglaw04_UtfCut.j2 : Nat → ByteArray → ByteArray → Int → ByteArray → Bool → Option (Bool)
  | 0, _, _, _, _, _ => none
  | k + 1, x0, x1, x2, x7, x67 => if x67 = true then (some false) else (if x0.size + x1.size ≤ 9223372036854775807 then (if 0 ≤ (x7.size : Int) then (if (x7.size : Int) ≤ ((x0 ++ x1).size : Int) then (if ((x0 ++ x1).extract ((x7.size : Int) : Int).toNat (x0 ++ x1).size).toList = ([] : List UInt8) then (some true) else ((utf_First.f k ((x0 ++ x1).extract ((x7.size : Int) : Int).toNat (x0 ++ x1).size)).bind fun bt235 => (if bt235.2.2 = 0 then (some (decide ((wrap64 ((x7.size : Int) + bt235.2.1)) > x2))) else (some false)))) else (none)) else (none)) else (none))
end
def gonglaw04_UtfCut.f (k : Nat) (a0 : ByteArray) (a1 : ByteArray) (a2 : Int) : Option (Bool) := (gonglaw04_works.f).bind fun t226 => (if t226 = true then (if (a0.size : Int) > 300 then (gonglaw04_UtfCut.j0 k a0 a1 a2 true) else (gonglaw04_UtfCut.j0 k a0 a1 a2 (decide ((a1.size : Int) > 300)))) else (some false))
theorem gonglaw04_UtfCut.mono_l : ∀ k, (∀ y0 y1 y2 y3, LeO (gonglaw04_UtfCut.j0 k y0 y1 y2 y3) (gonglaw04_UtfCut.j0 (k + 1) y0 y1 y2 y3)) ∧ (∀ y0 y1 y2 y3, LeO (gonglaw04_UtfCut.j1 k y0 y1 y2 y3) (gonglaw04_UtfCut.j1 (k + 1) y0 y1 y2 y3)) ∧ (∀ y0 y1 y2 y3 y4, LeO (gonglaw04_UtfCut.j2 k y0 y1 y2 y3 y4) (gonglaw04_UtfCut.j2 (k + 1) y0 y1 y2 y3 y4))
  | 0 => ⟨fun _ _ _ _ r h => by simp [gonglaw04_UtfCut.j0] at h, fun _ _ _ _ r h => by simp [gonglaw04_UtfCut.j1] at h, fun _ _ _ _ _ r h => by simp [gonglaw04_UtfCut.j2] at h⟩
  | k + 1 => by
    obtain ⟨ih0, ih1, ih2⟩ := gonglaw04_UtfCut.mono_l k
    refine ⟨?_, ?_, ?_⟩
    · intro y0 y1 y2 y3
      unfold gonglaw04_UtfCut.j0
      repeat' first
      | (with_reducible exact ih0 _ _ _ _)
      | (with_reducible exact ih1 _ _ _ _)
      | (with_reducible exact ih2 _ _ _ _ _)
      | (with_reducible exact utf_Check.mono _ _)
      | (with_reducible exact utf_Cut.mono _ _ _)
      | (with_reducible exact utf_First.mono _ _)
      | (with_reducible exact LeO.refl _)
      | (with_reducible exact LeO.none _)
      | (with_reducible refine LeO.ite ?_ ?_)
      | (with_reducible refine LeO.bind ?_ (fun _ => ?_))
      | exact ih0 _ _ _ _
      | exact ih1 _ _ _ _
      | exact ih2 _ _ _ _ _
      | exact utf_Check.mono _ _
      | exact utf_Cut.mono _ _ _
      | exact utf_First.mono _ _
      | exact LeO.none _
      | refine LeO.ite ?_ ?_
      | refine LeO.bind ?_ (fun _ => ?_)
    · intro y0 y1 y2 y3
      unfold gonglaw04_UtfCut.j1
      repeat' first
      | (with_reducible exact ih0 _ _ _ _)
      | (with_reducible exact ih1 _ _ _ _)
      | (with_reducible exact ih2 _ _ _ _ _)
      | (with_reducible exact utf_Check.mono _ _)
      | (with_reducible exact utf_Cut.mono _ _ _)
      | (with_reducible exact utf_First.mono _ _)
      | (with_reducible exact LeO.refl _)
      | (with_reducible exact LeO.none _)
      | (with_reducible refine LeO.ite ?_ ?_)
      | (with_reducible refine LeO.bind ?_ (fun _ => ?_))
      | exact ih0 _ _ _ _
      | exact ih1 _ _ _ _
      | exact ih2 _ _ _ _ _
      | exact utf_Check.mono _ _
      | exact utf_Cut.mono _ _ _
      | exact utf_First.mono _ _
      | exact LeO.none _
      | refine LeO.ite ?_ ?_
      | refine LeO.bind ?_ (fun _ => ?_)
    · intro y0 y1 y2 y3 y4
      unfold gonglaw04_UtfCut.j2
      repeat' first
      | (with_reducible exact ih0 _ _ _ _)
      | (with_reducible exact ih1 _ _ _ _)
      | (with_reducible exact ih2 _ _ _ _ _)
      | (with_reducible exact utf_Check.mono _ _)
      | (with_reducible exact utf_Cut.mono _ _ _)
      | (with_reducible exact utf_First.mono _ _)
      | (with_reducible exact LeO.refl _)
      | (with_reducible exact LeO.none _)
      | (with_reducible refine LeO.ite ?_ ?_)
      | (with_reducible refine LeO.bind ?_ (fun _ => ?_))
      | exact ih0 _ _ _ _
      | exact ih1 _ _ _ _
      | exact ih2 _ _ _ _ _
      | exact utf_Check.mono _ _
      | exact utf_Cut.mono _ _ _
      | exact utf_First.mono _ _
      | exact LeO.none _
      | refine LeO.ite ?_ ?_
      | refine LeO.bind ?_ (fun _ => ?_)
theorem gonglaw04_UtfCut.mono : ∀ a0 a1 a2 k, LeO (gonglaw04_UtfCut.f k a0 a1 a2) (gonglaw04_UtfCut.f (k + 1) a0 a1 a2) := by
  intro a0 a1 a2 k
  obtain ⟨ih0, ih1, ih2⟩ := gonglaw04_UtfCut.mono_l k
  unfold gonglaw04_UtfCut.f
  repeat' first
      | (with_reducible exact ih0 _ _ _ _)
      | (with_reducible exact ih1 _ _ _ _)
      | (with_reducible exact ih2 _ _ _ _ _)
      | (with_reducible exact utf_Check.mono _ _)
      | (with_reducible exact utf_Cut.mono _ _ _)
      | (with_reducible exact utf_First.mono _ _)
      | (with_reducible exact LeO.refl _)
      | (with_reducible exact LeO.none _)
      | (with_reducible refine LeO.ite ?_ ?_)
      | (with_reducible refine LeO.bind ?_ (fun _ => ?_))
      | exact ih0 _ _ _ _
      | exact ih1 _ _ _ _
      | exact ih2 _ _ _ _ _
      | exact utf_Check.mono _ _
      | exact utf_Cut.mono _ _ _
      | exact utf_First.mono _ _
      | exact LeO.none _
      | refine LeO.ite ?_ ?_
      | refine LeO.bind ?_ (fun _ => ?_)
set_option maxHeartbeats 8000000 in
set_option maxRecDepth 100000 in
theorem gonglaw04_UtfCut.calls (k : Nat) (a0 : ByteArray) (a1 : ByteArray) (a2 : Int) (r : Bool) (w : World) (h : gonglaw04_UtfCut.f k a0 a1 a2 = some r) :
    Calls Try.prog 6 #[.string a0, .string a1, .int .i64 a2] w fun e w' => e = .returned (.bool r) ∧ Below w.heap.size w w' := by
  have HB := Aside0.mk (Below.refl w.heap.size w)
  have H : ((gonglaw04_works.f).bind fun t226 => (if t226 = true then (if (a0.size : Int) > 300 then (gonglaw04_UtfCut.j0 k a0 a1 a2 true) else (gonglaw04_UtfCut.j0 k a0 a1 a2 (decide ((a1.size : Int) > 300)))) else (some false))) = some r := h
  clear h
  replace H := Option.bind_eq_some_iff.mp H
  obtain ⟨t226, A40, H⟩ := H
  replace H : (if t226 = true then (if (a0.size : Int) > 300 then (gonglaw04_UtfCut.j0 k a0 a1 a2 true) else (gonglaw04_UtfCut.j0 k a0 a1 a2 (decide ((a1.size : Int) > 300)))) else (some false)) = some r := H
  have A4 := Aside0.mk A40
  clear A40
  by_cases c5 : t226 = true
  · subst c5
    have H1 : (if (a0.size : Int) > 300 then (gonglaw04_UtfCut.j0 k a0 a1 a2 true) else (gonglaw04_UtfCut.j0 k a0 a1 a2 (decide ((a1.size : Int) > 300)))) = some r := by rw [if_pos rfl] at H; exact H
    clear H
    have H := H1
    clear H1
    have HC6 := Aside0.mk H
    clear H
    go_enter Try.func6, Try.ntmps6
    go_upto_region 3 with (first | ((with_reducible refine gate_callee (f := 8) rfl ?_); refine goesL_ (some 12) rfl rfl Try.func8 (by kernel_rfl) rfl #[] rfl (by (try simp only [List.map_toArray, List.map_cons, List.map_nil]); first | done | rfl | (simp only [List.length_drop, List.length_take]; rfl)) ?_; (with_reducible refine (gonglaw04_works.calls  true _ A4.out).mono ?_); rintro e w7 ⟨rfl, hb⟩; refine ⟨_, rfl, ?_⟩; have n0_ := Aside0.mk (below_step (by repeat (first | (with_reducible first | exact HB.out | apply below_alloc | apply pw_below_drewN | apply below_drew1) | exact HB.out)) hb); clear HB; have HB := n0_; clear n0_; (try clear hb); (try clear hb2); (try clear hk); (try clear hi)))
    (try simp only [Act.put, List.setIfInBounds_toArray, List.set_cons_zero, List.set_cons_succ])
    go_cut [21] (fun v21 wc => ∃ (kq : Nat) (x21_5 : Bool), v21 = .bool x21_5 ∧ Aside0 (gonglaw04_UtfCut.j0 kq a0 a1 a2 x21_5 = some r) ∧ Aside0 (kq ≤ k) ∧ Aside0 (Below w.heap.size w wc))
    case first =>
      have H := HC6.out
      clear HC6
      by_cases c8 : (a0.size : Int) > 300
      · rw [if_pos c8] at H
        have c8b0 : decide (300 < (a0.size : Int)) = true := decide_eq_true c8
        have c8b1 : decide (300 < a0.size) = true := decide_eq_true (by omega)
        clear c8
        (first | rw [c8b0] | (simp only [i64_w, i32_w]; rw [c8b0]) | skip)
        have H' := Aside0.mk H
        clear H
        go_wp2
        go_meet
        case rel => exact ⟨_, (true), (by first | rfl | (simp; done) | (simp [*]; done)), H', ⟨by first | omega | exact Nat.le_refl _⟩, ⟨by repeat (first | (with_reducible first | exact HB.out | apply below_alloc | apply pw_below_drewN | apply below_drew1) | exact HB.out)⟩⟩
      · rw [if_neg c8] at H
        have c8b0 : decide (300 < (a0.size : Int)) = false := decide_eq_false c8
        have c8b1 : decide (300 < a0.size) = false := decide_eq_false (by omega)
        clear c8
        (first | rw [c8b0] | (simp only [i64_w, i32_w]; rw [c8b0]) | skip)
        have H' := Aside0.mk H
        clear H
        go_wp2
        go_meet
        case rel => exact ⟨_, (decide ((a1.size : Int) > 300)), (by first | rfl | (simp; done) | (simp [*]; done)), H', ⟨by first | omega | exact Nat.le_refl _⟩, ⟨by repeat (first | (with_reducible first | exact HB.out | apply below_alloc | apply pw_below_drewN | apply below_drew1) | exact HB.out)⟩⟩
    case rest =>
      clear HC6
      try clear p2
      try clear c5
      try clear c6
      try clear c8
      try clear c8b0
      try clear c8b1
      obtain ⟨kq, x21_5, rfl, HA, HJ5, HB⟩ := hcut
      cases kq with
      | zero => exact absurd HA.out (by simp [gonglaw04_UtfCut.j0])
      | succ kj5 =>
        have H := HA.out
        clear HA
        simp only [gonglaw04_UtfCut.j0] at H
        by_cases c9 : x21_5 = true
        · subst c9
          have H1 : (some true) = some r := by rw [if_pos rfl] at H; exact H
          clear H
          have H := H1
          clear H1
          obtain rfl := Option.some.inj H
          go_wp2
          go_ret
          exact ⟨by first | rfl | (simp [errW_none, errW_some] <;> rfl) | (simp [*, errW_none, errW_some] <;> rfl), by repeat (first | (with_reducible first | exact HB.out | apply below_alloc | apply pw_below_drewN | apply below_drew1) | exact HB.out)⟩
        · replace c9 := Bool.eq_false_iff.mpr c9
          subst c9
          have H1 : ((utf_Check.f kj5 a0).bind fun t227 => (if t227 = 0 then ((utf_Check.f kj5 a1).bind fun t228 => (gonglaw04_UtfCut.j1 kj5 a0 a1 a2 (t228 != 0))) else (gonglaw04_UtfCut.j1 kj5 a0 a1 a2 true))) = some r := by rw [if_neg (show ¬ (false = true) by decide)] at H; exact H
          clear H
          have H := H1
          clear H1
          have HC10 := Aside0.mk H
          clear H
          go_upto_region 5 with (fail)
          go_cut [29] (fun v29 wc => ∃ (kq : Nat) (x29_9 : Bool), v29 = .bool x29_9 ∧ Aside0 (gonglaw04_UtfCut.j1 kq a0 a1 a2 x29_9 = some r) ∧ Aside0 (kq ≤ kj5) ∧ Aside0 (Below w.heap.size w wc))
          case first =>
            have H := HC10.out
            clear HC10
            replace H := Option.bind_eq_some_iff.mp H
            obtain ⟨t227, A110, H⟩ := H
            replace H : (if t227 = 0 then ((utf_Check.f kj5 a1).bind fun t228 => (gonglaw04_UtfCut.j1 kj5 a0 a1 a2 (t228 != 0))) else (gonglaw04_UtfCut.j1 kj5 a0 a1 a2 true)) = some r := H
            have A11 := Aside0.mk A110
            clear A110
            by_cases c12 : t227 = 0
            · rw [if_pos c12] at H
              have c12b0 : (t227 == 0) = true := beq_iff_eq.mpr c12
              have c12b1 : (t227 != 0) = false := bne_eq_false_iff_eq.mpr c12
              clear c12
              (first | rw [c12b0] | (simp only [i64_w, i32_w]; rw [c12b0]) | skip)
              replace H := Option.bind_eq_some_iff.mp H
              obtain ⟨t228, A130, H⟩ := H
              replace H : (gonglaw04_UtfCut.j1 kj5 a0 a1 a2 (t228 != 0)) = some r := H
              have A13 := Aside0.mk A130
              clear A130
              have H' := Aside0.mk H
              clear H
              go_wp2_with (first | ((with_reducible refine gate_callee (f := 12) rfl ?_); refine goesL_ (some 23) rfl rfl Try.func12 (by kernel_rfl) rfl #[.string a0] rfl (by (try simp only [List.map_toArray, List.map_cons, List.map_nil]); first | done | rfl | (simp only [List.length_drop, List.length_take]; rfl)) ?_; (with_reducible refine (utf_Check.calls kj5 a0 t227 _ A11.out).mono ?_); rintro e w14 ⟨rfl, hb⟩; refine ⟨_, rfl, ?_⟩; have n0_ := Aside0.mk (below_step (by repeat (first | (with_reducible first | exact HB.out | apply below_alloc | apply pw_below_drewN | apply below_drew1) | exact HB.out)) hb); clear HB; have HB := n0_; clear n0_; (try clear hb); (try clear hb2); (try clear hk); (try clear hi)) | (go_at_call 12; (with_reducible refine (utf_Check.calls kj5 a1 t228 _ A13.out).mono ?_); rintro e w15 ⟨rfl, hb⟩; have n0_ := Aside0.mk (below_step (by repeat (first | (with_reducible first | exact HB.out | apply below_alloc | apply pw_below_drewN | apply below_drew1) | exact HB.out)) hb); clear HB; have HB := n0_; clear n0_; (try clear hb); (try clear hb2); (try clear hk); (try clear hi)))
              go_meet
              case rel => exact ⟨_, ((t228 != 0)), (by first | rfl | (simp; done) | (simp [*]; done)), H', ⟨by have := HJ5.out; first | omega | exact Nat.le_refl _⟩, ⟨by repeat (first | (with_reducible first | exact HB.out | apply below_alloc | apply pw_below_drewN | apply below_drew1) | exact HB.out)⟩⟩
            · rw [if_neg c12] at H
              have c12b0 : (t227 == 0) = false := beq_eq_false_iff_ne.mpr c12
              have c12b1 : (t227 != 0) = true := bne_iff_ne.mpr c12
              (first | rw [c12b0] | (simp only [i64_w, i32_w]; rw [c12b0]) | skip)
              have H' := Aside0.mk H
              clear H
              go_wp2_with (first | ((with_reducible refine gate_callee (f := 12) rfl ?_); refine goesL_ (some 23) rfl rfl Try.func12 (by kernel_rfl) rfl #[.string a0] rfl (by (try simp only [List.map_toArray, List.map_cons, List.map_nil]); first | done | rfl | (simp only [List.length_drop, List.length_take]; rfl)) ?_; (with_reducible refine (utf_Check.calls kj5 a0 t227 _ A11.out).mono ?_); rintro e w16 ⟨rfl, hb⟩; refine ⟨_, rfl, ?_⟩; have n0_ := Aside0.mk (below_step (by repeat (first | (with_reducible first | exact HB.out | apply below_alloc | apply pw_below_drewN | apply below_drew1) | exact HB.out)) hb); clear HB; have HB := n0_; clear n0_; (try clear hb); (try clear hb2); (try clear hk); (try clear hi)))
              go_meet
              case rel => exact ⟨_, (true), (by first | rfl | (simp; done) | (simp [*]; done)), H', ⟨by have := HJ5.out; first | omega | exact Nat.le_refl _⟩, ⟨by repeat (first | (with_reducible first | exact HB.out | apply below_alloc | apply pw_below_drewN | apply below_drew1) | exact HB.out)⟩⟩
          case rest =>
            clear HC10
            try clear c1
            try clear p2
            try clear c5
            try clear c6
            try clear c8
            try clear c8b0
            try clear c8b1
            try clear c9
            try clear c12
            try clear c12b0
            try clear c12b1
            try clear p2
            obtain ⟨kq, x29_9, rfl, HA, HJ9, HB⟩ := hcut
            cases kq with
            | zero => exact absurd HA.out (by simp [gonglaw04_UtfCut.j1])
            | succ kj9 =>
              have H := HA.out
              clear HA
              simp only [gonglaw04_UtfCut.j1] at H
              by_cases c17 : x29_9 = true
              · subst c17
                have H1 : (some true) = some r := by rw [if_pos rfl] at H; exact H
                clear H
                have H := H1
                clear H1
                obtain rfl := Option.some.inj H
                go_wp2
                go_ret
                exact ⟨by first | rfl | (simp [errW_none, errW_some] <;> rfl) | (simp [*, errW_none, errW_some] <;> rfl), by repeat (first | (with_reducible first | exact HB.out | apply below_alloc | apply pw_below_drewN | apply below_drew1) | exact HB.out)⟩
              · replace c17 := Bool.eq_false_iff.mpr c17
                subst c17
                have H1 : ((gongbook_Below.f a2 700).bind fun t229 => (if a0.size + a1.size ≤ 9223372036854775807 then ((utf_Cut.f kj9 (a0 ++ a1) t229).bind fun bt230 => ((utf_Check.f kj9 (a0 ++ a1)).bind fun t232 => (if t232 = 0 then (if bt230.2 = 0 then (if (bt230.1.size : Int) > t229 then (gonglaw04_UtfCut.j2 kj9 a0 a1 t229 bt230.1 true) else ((strings_HasPrefix.f (a0 ++ a1) bt230.1).bind fun t233 => (if t233 = true then ((utf_Check.f kj9 bt230.1).bind fun t234 => (gonglaw04_UtfCut.j2 kj9 a0 a1 t229 bt230.1 (t234 != 0))) else (gonglaw04_UtfCut.j2 kj9 a0 a1 t229 bt230.1 true)))) else (gonglaw04_UtfCut.j2 kj9 a0 a1 t229 bt230.1 true)) else (gonglaw04_UtfCut.j2 kj9 a0 a1 t229 bt230.1 true)))) else (none))) = some r := by rw [if_neg (show ¬ (false = true) by decide)] at H; exact H
                clear H
                have H := H1
                clear H1
                replace H := Option.bind_eq_some_iff.mp H
                obtain ⟨t229, A180, H⟩ := H
                replace H : (if a0.size + a1.size ≤ 9223372036854775807 then ((utf_Cut.f kj9 (a0 ++ a1) t229).bind fun bt230 => ((utf_Check.f kj9 (a0 ++ a1)).bind fun t232 => (if t232 = 0 then (if bt230.2 = 0 then (if (bt230.1.size : Int) > t229 then (gonglaw04_UtfCut.j2 kj9 a0 a1 t229 bt230.1 true) else ((strings_HasPrefix.f (a0 ++ a1) bt230.1).bind fun t233 => (if t233 = true then ((utf_Check.f kj9 bt230.1).bind fun t234 => (gonglaw04_UtfCut.j2 kj9 a0 a1 t229 bt230.1 (t234 != 0))) else (gonglaw04_UtfCut.j2 kj9 a0 a1 t229 bt230.1 true)))) else (gonglaw04_UtfCut.j2 kj9 a0 a1 t229 bt230.1 true)) else (gonglaw04_UtfCut.j2 kj9 a0 a1 t229 bt230.1 true)))) else (none)) = some r := H
                have A18 := Aside0.mk A180
                clear A180
                by_cases c19 : a0.size + a1.size ≤ 9223372036854775807
                · rw [if_pos c19] at H
                  have c19b0 := eq_true c19
                  have c19b1 : decide (a0.size + a1.size ≤ 9223372036854775807) = true := decide_eq_true c19
                  try have c19b2 : (9223372036854775807 < a0.size + a1.size) = False := eq_false (Nat.not_lt.2 c19)
                  replace H := Option.bind_eq_some_iff.mp H
                  obtain ⟨⟨t230, t231⟩, A200, H⟩ := H
                  replace H : ((utf_Check.f kj9 (a0 ++ a1)).bind fun t232 => (if t232 = 0 then (if t231 = 0 then (if (t230.size : Int) > t229 then (gonglaw04_UtfCut.j2 kj9 a0 a1 t229 t230 true) else ((strings_HasPrefix.f (a0 ++ a1) t230).bind fun t233 => (if t233 = true then ((utf_Check.f kj9 t230).bind fun t234 => (gonglaw04_UtfCut.j2 kj9 a0 a1 t229 t230 (t234 != 0))) else (gonglaw04_UtfCut.j2 kj9 a0 a1 t229 t230 true)))) else (gonglaw04_UtfCut.j2 kj9 a0 a1 t229 t230 true)) else (gonglaw04_UtfCut.j2 kj9 a0 a1 t229 t230 true))) = some r := H
                  have A20 := Aside0.mk A200
                  clear A200
                  have HC21 := Aside0.mk H
                  clear H
                  go_upto_region 9 with (first | ((with_reducible refine gate_callee (f := 26) rfl ?_); refine goesL_ (some 31) rfl rfl Try.func26 (by kernel_rfl) rfl #[.int .i64 a2, .int .i64 700] rfl (by (try simp only [List.map_toArray, List.map_cons, List.map_nil]); first | done | rfl | (simp only [List.length_drop, List.length_take]; rfl)) ?_; (with_reducible refine (gongbook_Below.calls a2 700 t229 _ A18.out).mono ?_); rintro e w' ⟨rfl, ⟨nd, rfl⟩⟩; refine ⟨_, rfl, ?_⟩) | ((with_reducible refine gate_callee (f := 24) rfl ?_); refine goesL_ (some 37) rfl rfl Try.func24 (by kernel_rfl) rfl #[.string (a0 ++ a1), .int .i64 t229] rfl (by (try simp only [List.map_toArray, List.map_cons, List.map_nil]); first | done | rfl | (simp only [List.length_drop, List.length_take]; rfl)) ?_; (with_reducible refine (utf_Cut.calls kj9 (a0 ++ a1) t229 t230 t231 _ A20.out).mono ?_); rintro e w22 ⟨rfl, hb⟩; refine ⟨_, rfl, ?_⟩; have n0_ := Aside0.mk (below_step (by repeat (first | (with_reducible first | exact HB.out | apply below_alloc | apply pw_below_drewN | apply below_drew1) | exact HB.out)) hb); clear HB; have HB := n0_; clear n0_; (try clear hb); (try clear hb2); (try clear hk); (try clear hi)))
                  (try simp only [Act.put, List.setIfInBounds_toArray, List.set_cons_zero, List.set_cons_succ])
                  go_cut [67] (fun v67 wc => ∃ (kq : Nat) (x67_20 : Bool), v67 = .bool x67_20 ∧ Aside0 (gonglaw04_UtfCut.j2 kq a0 a1 t229 t230 x67_20 = some r) ∧ Aside0 (kq ≤ kj9) ∧ Aside0 (Below w.heap.size w wc))
                  case first =>
                    have H := HC21.out
                    clear HC21
                    replace H := Option.bind_eq_some_iff.mp H
                    obtain ⟨t232, A230, H⟩ := H
                    replace H : (if t232 = 0 then (if t231 = 0 then (if (t230.size : Int) > t229 then (gonglaw04_UtfCut.j2 kj9 a0 a1 t229 t230 true) else ((strings_HasPrefix.f (a0 ++ a1) t230).bind fun t233 => (if t233 = true then ((utf_Check.f kj9 t230).bind fun t234 => (gonglaw04_UtfCut.j2 kj9 a0 a1 t229 t230 (t234 != 0))) else (gonglaw04_UtfCut.j2 kj9 a0 a1 t229 t230 true)))) else (gonglaw04_UtfCut.j2 kj9 a0 a1 t229 t230 true)) else (gonglaw04_UtfCut.j2 kj9 a0 a1 t229 t230 true)) = some r := H
                    have A23 := Aside0.mk A230
                    clear A230
                    by_cases c24 : t232 = 0
                    · rw [if_pos c24] at H
                      have c24b0 : (t232 == 0) = true := beq_iff_eq.mpr c24
                      have c24b1 : (t232 != 0) = false := bne_eq_false_iff_eq.mpr c24
                      clear c24
                      (first | rw [c24b0] | (simp only [i64_w, i32_w]; rw [c24b0]) | skip)
                      by_cases c25 : t231 = 0
                      · rw [if_pos c25] at H
                        have c25b0 : (t231 == 0) = true := beq_iff_eq.mpr c25
                        have c25b1 : (t231 != 0) = false := bne_eq_false_iff_eq.mpr c25
                        clear c25
                        by_cases c26 : (t230.size : Int) > t229
                        · rw [if_pos c26] at H
                          have c26b0 : decide (t229 < (t230.size : Int)) = true := decide_eq_true c26
                          clear c26
                          have H' := Aside0.mk H
                          clear H
                          go_wp2_with (first | ((with_reducible refine gate_callee (f := 12) rfl ?_); refine goesL_ (some 43) rfl rfl Try.func12 (by kernel_rfl) rfl #[.string (a0 ++ a1)] rfl (by (try simp only [List.map_toArray, List.map_cons, List.map_nil]); first | done | rfl | (simp only [List.length_drop, List.length_take]; rfl)) ?_; (with_reducible refine (utf_Check.calls kj9 (a0 ++ a1) t232 _ A23.out).mono ?_); rintro e w27 ⟨rfl, hb⟩; refine ⟨_, rfl, ?_⟩; have n0_ := Aside0.mk (below_step (by repeat (first | (with_reducible first | exact HB.out | apply below_alloc | apply pw_below_drewN | apply below_drew1) | exact HB.out)) hb); clear HB; have HB := n0_; clear n0_; (try clear hb); (try clear hb2); (try clear hk); (try clear hi)))
                          go_meet
                          case rel => exact ⟨_, (true), (by first | rfl | (simp; done) | (simp [*]; done)), H', ⟨by have := HJ5.out; have := HJ9.out; first | omega | exact Nat.le_refl _⟩, ⟨by repeat (first | (with_reducible first | exact HB.out | apply below_alloc | apply pw_below_drewN | apply below_drew1) | exact HB.out)⟩⟩
                        · rw [if_neg c26] at H
                          have c26b0 : decide (t229 < (t230.size : Int)) = false := decide_eq_false c26
                          clear c26
                          replace H := Option.bind_eq_some_iff.mp H
                          obtain ⟨t233, A280, H⟩ := H
                          replace H : (if t233 = true then ((utf_Check.f kj9 t230).bind fun t234 => (gonglaw04_UtfCut.j2 kj9 a0 a1 t229 t230 (t234 != 0))) else (gonglaw04_UtfCut.j2 kj9 a0 a1 t229 t230 true)) = some r := H
                          have A28 := Aside0.mk A280
                          clear A280
                          by_cases c29 : t233 = true
                          · subst c29
                            have H1 : ((utf_Check.f kj9 t230).bind fun t234 => (gonglaw04_UtfCut.j2 kj9 a0 a1 t229 t230 (t234 != 0))) = some r := by rw [if_pos rfl] at H; exact H
                            clear H
                            have H := H1
                            clear H1
                            replace H := Option.bind_eq_some_iff.mp H
                            obtain ⟨t234, A300, H⟩ := H
                            replace H : (gonglaw04_UtfCut.j2 kj9 a0 a1 t229 t230 (t234 != 0)) = some r := H
                            have A30 := Aside0.mk A300
                            clear A300
                            have H' := Aside0.mk H
                            clear H
                            go_wp2_with (first | ((with_reducible refine gate_callee (f := 12) rfl ?_); refine goesL_ (some 43) rfl rfl Try.func12 (by kernel_rfl) rfl #[.string (a0 ++ a1)] rfl (by (try simp only [List.map_toArray, List.map_cons, List.map_nil]); first | done | rfl | (simp only [List.length_drop, List.length_take]; rfl)) ?_; (with_reducible refine (utf_Check.calls kj9 (a0 ++ a1) t232 _ A23.out).mono ?_); rintro e w31 ⟨rfl, hb⟩; refine ⟨_, rfl, ?_⟩; have n0_ := Aside0.mk (below_step (by repeat (first | (with_reducible first | exact HB.out | apply below_alloc | apply pw_below_drewN | apply below_drew1) | exact HB.out)) hb); clear HB; have HB := n0_; clear n0_; (try clear hb); (try clear hb2); (try clear hk); (try clear hi)) | (go_at_call 27; (with_reducible refine (strings_HasPrefix.calls (a0 ++ a1) t230 true _ A28.out).mono ?_); rintro e w' ⟨rfl, ⟨nd, rfl⟩⟩) | (go_at_call 12; (with_reducible refine (utf_Check.calls kj9 t230 t234 _ A30.out).mono ?_); rintro e w32 ⟨rfl, hb⟩; have n0_ := Aside0.mk (below_step (by repeat (first | (with_reducible first | exact HB.out | apply below_alloc | apply pw_below_drewN | apply below_drew1) | exact HB.out)) hb); clear HB; have HB := n0_; clear n0_; (try clear hb); (try clear hb2); (try clear hk); (try clear hi)))
                            go_meet
                            case rel => exact ⟨_, ((t234 != 0)), (by first | rfl | (simp; done) | (simp [*]; done)), H', ⟨by have := HJ5.out; have := HJ9.out; first | omega | exact Nat.le_refl _⟩, ⟨by repeat (first | (with_reducible first | exact HB.out | apply below_alloc | apply pw_below_drewN | apply below_drew1) | exact HB.out)⟩⟩
                          · replace c29 := Bool.eq_false_iff.mpr c29
                            subst c29
                            have H1 : (gonglaw04_UtfCut.j2 kj9 a0 a1 t229 t230 true) = some r := by rw [if_neg (show ¬ (false = true) by decide)] at H; exact H
                            clear H
                            have H := H1
                            clear H1
                            have H' := Aside0.mk H
                            clear H
                            go_wp2_with (first | ((with_reducible refine gate_callee (f := 12) rfl ?_); refine goesL_ (some 43) rfl rfl Try.func12 (by kernel_rfl) rfl #[.string (a0 ++ a1)] rfl (by (try simp only [List.map_toArray, List.map_cons, List.map_nil]); first | done | rfl | (simp only [List.length_drop, List.length_take]; rfl)) ?_; (with_reducible refine (utf_Check.calls kj9 (a0 ++ a1) t232 _ A23.out).mono ?_); rintro e w33 ⟨rfl, hb⟩; refine ⟨_, rfl, ?_⟩; have n0_ := Aside0.mk (below_step (by repeat (first | (with_reducible first | exact HB.out | apply below_alloc | apply pw_below_drewN | apply below_drew1) | exact HB.out)) hb); clear HB; have HB := n0_; clear n0_; (try clear hb); (try clear hb2); (try clear hk); (try clear hi)) | (go_at_call 27; (with_reducible refine (strings_HasPrefix.calls (a0 ++ a1) t230 false _ A28.out).mono ?_); rintro e w' ⟨rfl, ⟨nd, rfl⟩⟩))
                            go_meet
                            case rel => exact ⟨_, (true), (by first | rfl | (simp; done) | (simp [*]; done)), H', ⟨by have := HJ5.out; have := HJ9.out; first | omega | exact Nat.le_refl _⟩, ⟨by repeat (first | (with_reducible first | exact HB.out | apply below_alloc | apply pw_below_drewN | apply below_drew1) | exact HB.out)⟩⟩
                      · rw [if_neg c25] at H
                        have c25b0 : (t231 == 0) = false := beq_eq_false_iff_ne.mpr c25
                        have c25b1 : (t231 != 0) = true := bne_iff_ne.mpr c25
                        have H' := Aside0.mk H
                        clear H
                        go_wp2_with (first | ((with_reducible refine gate_callee (f := 12) rfl ?_); refine goesL_ (some 43) rfl rfl Try.func12 (by kernel_rfl) rfl #[.string (a0 ++ a1)] rfl (by (try simp only [List.map_toArray, List.map_cons, List.map_nil]); first | done | rfl | (simp only [List.length_drop, List.length_take]; rfl)) ?_; (with_reducible refine (utf_Check.calls kj9 (a0 ++ a1) t232 _ A23.out).mono ?_); rintro e w34 ⟨rfl, hb⟩; refine ⟨_, rfl, ?_⟩; have n0_ := Aside0.mk (below_step (by repeat (first | (with_reducible first | exact HB.out | apply below_alloc | apply pw_below_drewN | apply below_drew1) | exact HB.out)) hb); clear HB; have HB := n0_; clear n0_; (try clear hb); (try clear hb2); (try clear hk); (try clear hi)))
                        go_meet
                        case rel => exact ⟨_, (true), (by first | rfl | (simp; done) | (simp [*]; done)), H', ⟨by have := HJ5.out; have := HJ9.out; first | omega | exact Nat.le_refl _⟩, ⟨by repeat (first | (with_reducible first | exact HB.out | apply below_alloc | apply pw_below_drewN | apply below_drew1) | exact HB.out)⟩⟩
                    · rw [if_neg c24] at H
                      have c24b0 : (t232 == 0) = false := beq_eq_false_iff_ne.mpr c24
                      have c24b1 : (t232 != 0) = true := bne_iff_ne.mpr c24
                      (first | rw [c24b0] | (simp only [i64_w, i32_w]; rw [c24b0]) | skip)
                      have H' := Aside0.mk H
                      clear H
                      go_wp2_with (first | ((with_reducible refine gate_callee (f := 12) rfl ?_); refine goesL_ (some 43) rfl rfl Try.func12 (by kernel_rfl) rfl #[.string (a0 ++ a1)] rfl (by (try simp only [List.map_toArray, List.map_cons, List.map_nil]); first | done | rfl | (simp only [List.length_drop, List.length_take]; rfl)) ?_; (with_reducible refine (utf_Check.calls kj9 (a0 ++ a1) t232 _ A23.out).mono ?_); rintro e w35 ⟨rfl, hb⟩; refine ⟨_, rfl, ?_⟩; have n0_ := Aside0.mk (below_step (by repeat (first | (with_reducible first | exact HB.out | apply below_alloc | apply pw_below_drewN | apply below_drew1) | exact HB.out)) hb); clear HB; have HB := n0_; clear n0_; (try clear hb); (try clear hb2); (try clear hk); (try clear hi)))
                      go_meet
                      case rel => exact ⟨_, (true), (by first | rfl | (simp; done) | (simp [*]; done)), H', ⟨by have := HJ5.out; have := HJ9.out; first | omega | exact Nat.le_refl _⟩, ⟨by repeat (first | (with_reducible first | exact HB.out | apply below_alloc | apply pw_below_drewN | apply below_drew1) | exact HB.out)⟩⟩
                  case rest =>
                    clear HC21
                    try clear c1
                    try clear c2
                    try clear p2
                    try clear c5
                    try clear c6
                    try clear c8
                    try clear c8b0
                    try clear c8b1
                    try clear c9
                    try clear c12
                    try clear c12b0
                    try clear c12b1
                    try clear c17
                    try clear c19
                    try clear c19b0
                    try clear c19b1
                    try clear c19b2
                    try clear c24
                    try clear c24b0
                    try clear c24b1
                    try clear c25
                    try clear c25b0
                    try clear c25b1
                    try clear c26
                    try clear c26b0
                    try clear c29
                    try clear p2
                    obtain ⟨kq, x67_20, rfl, HA, HJ20, HB⟩ := hcut
                    cases kq with
                    | zero => exact absurd HA.out (by simp [gonglaw04_UtfCut.j2])
                    | succ kj20 =>
                      have H := HA.out
                      clear HA
                      simp only [gonglaw04_UtfCut.j2] at H
                      by_cases c36 : x67_20 = true
                      · subst c36
                        have H1 : (some false) = some r := by rw [if_pos rfl] at H; exact H
                        clear H
                        have H := H1
                        clear H1
                        obtain rfl := Option.some.inj H
                        go_wp2
                        go_ret
                        exact ⟨by first | rfl | (simp [errW_none, errW_some] <;> rfl) | (simp [*, errW_none, errW_some] <;> rfl), by repeat (first | (with_reducible first | exact HB.out | apply below_alloc | apply pw_below_drewN | apply below_drew1) | exact HB.out)⟩
                      · replace c36 := Bool.eq_false_iff.mpr c36
                        subst c36
                        have H1 : (if a0.size + a1.size ≤ 9223372036854775807 then (if 0 ≤ (t230.size : Int) then (if (t230.size : Int) ≤ ((a0 ++ a1).size : Int) then (if ((a0 ++ a1).extract ((t230.size : Int) : Int).toNat (a0 ++ a1).size).toList = ([] : List UInt8) then (some true) else ((utf_First.f kj20 ((a0 ++ a1).extract ((t230.size : Int) : Int).toNat (a0 ++ a1).size)).bind fun bt235 => (if bt235.2.2 = 0 then (some (decide ((wrap64 ((t230.size : Int) + bt235.2.1)) > t229))) else (some false)))) else (none)) else (none)) else (none)) = some r := by rw [if_neg (show ¬ (false = true) by decide)] at H; exact H
                        clear H
                        have H := H1
                        clear H1
                        by_cases c37 : a0.size + a1.size ≤ 9223372036854775807
                        · rw [if_pos c37] at H
                          have c37b0 := eq_true c37
                          have c37b1 : decide (a0.size + a1.size ≤ 9223372036854775807) = true := decide_eq_true c37
                          try have c37b2 : (9223372036854775807 < a0.size + a1.size) = False := eq_false (Nat.not_lt.2 c37)
                          by_cases c38 : 0 ≤ (t230.size : Int)
                          · rw [if_pos c38] at H
                            have c38b0 := eq_true c38
                            have c38b1 : decide (0 ≤ (t230.size : Int)) = true := decide_eq_true c38
                            clear c38
                            by_cases c39 : (t230.size : Int) ≤ ((a0 ++ a1).size : Int)
                            · rw [if_pos c39] at H
                              have c39b0 := eq_true c39
                              have c39b1 : decide ((t230.size : Int) ≤ ((a0 ++ a1).size : Int)) = true := decide_eq_true c39
                              try have c39b1s : decide ((t230.size : Int) ≤ ((a0.size : Int) + (a1.size : Int))) = true := by have z_ := c39b1; simp only [ByteArray.size_append, Int.natCast_add, Int.toNat_natCast] at z_ ⊢; exact z_
                              try have c39b1n : t230.size ≤ a0.size + a1.size := by have z_ := c39b1; simp only [ByteArray.size_append, Int.natCast_add, decide_eq_true_eq, eq_iff_iff, iff_true] at z_; omega
                              by_cases c40 : ((a0 ++ a1).extract ((t230.size : Int) : Int).toNat (a0 ++ a1).size).toList = ([] : List UInt8)
                              · rw [if_pos c40] at H
                                have c40b0 : (((a0 ++ a1).extract ((t230.size : Int) : Int).toNat (a0 ++ a1).size).toList == ([] : List UInt8)) = true := beq_iff_eq.mpr c40
                                try have c40b0s : (((a0 ++ a1).extract t230.size (a0.size + a1.size)).toList == ([] : List UInt8)) = true := by have z_ := c40b0; simp only [ByteArray.size_append, Int.natCast_add, Int.toNat_natCast] at z_ ⊢; exact z_
                                have c40b1 : (((a0 ++ a1).extract ((t230.size : Int) : Int).toNat (a0 ++ a1).size).toList != ([] : List UInt8)) = false := bne_eq_false_iff_eq.mpr c40
                                try have c40b1s : (((a0 ++ a1).extract t230.size (a0.size + a1.size)).toList != ([] : List UInt8)) = false := by have z_ := c40b1; simp only [ByteArray.size_append, Int.natCast_add, Int.toNat_natCast] at z_ ⊢; exact z_
                                clear c40
                                obtain rfl := Option.some.inj H
                                go_wp2
                                go_ret
                                exact ⟨by first | rfl | (simp [errW_none, errW_some] <;> rfl) | (simp [*, errW_none, errW_some] <;> rfl), by repeat (first | (with_reducible first | exact HB.out | apply below_alloc | apply pw_below_drewN | apply below_drew1) | exact HB.out)⟩
                              · rw [if_neg c40] at H
                                have c40b0 : (((a0 ++ a1).extract ((t230.size : Int) : Int).toNat (a0 ++ a1).size).toList == ([] : List UInt8)) = false := beq_eq_false_iff_ne.mpr c40
                                try have c40b0s : (((a0 ++ a1).extract t230.size (a0.size + a1.size)).toList == ([] : List UInt8)) = false := by have z_ := c40b0; simp only [ByteArray.size_append, Int.natCast_add, Int.toNat_natCast] at z_ ⊢; exact z_
                                have c40b1 : (((a0 ++ a1).extract ((t230.size : Int) : Int).toNat (a0 ++ a1).size).toList != ([] : List UInt8)) = true := bne_iff_ne.mpr c40
                                try have c40b1s : (((a0 ++ a1).extract t230.size (a0.size + a1.size)).toList != ([] : List UInt8)) = true := by have z_ := c40b1; simp only [ByteArray.size_append, Int.natCast_add, Int.toNat_natCast] at z_ ⊢; exact z_
                                replace H := Option.bind_eq_some_iff.mp H
                                obtain ⟨⟨t235, t236, t237⟩, A410, H⟩ := H
                                replace H : (if t237 = 0 then (some (decide ((wrap64 ((t230.size : Int) + t236)) > t229))) else (some false)) = some r := H
                                have A41 := Aside0.mk A410
                                clear A410
                                by_cases c42 : t237 = 0
                                · rw [if_pos c42] at H
                                  have c42b0 : (t237 == 0) = true := beq_iff_eq.mpr c42
                                  have c42b1 : (t237 != 0) = false := bne_eq_false_iff_eq.mpr c42
                                  clear c42
                                  obtain rfl := Option.some.inj H
                                  go_wp2_with (first | ((with_reducible refine gate_callee (f := 14) rfl ?_); refine goesL_ (some 78) rfl rfl Try.func14 (by kernel_rfl) rfl #[.string ((a0 ++ a1).extract ((t230.size : Int) : Int).toNat (a0 ++ a1).size)] rfl (by (try simp only [List.map_toArray, List.map_cons, List.map_nil]); first | done | rfl | (simp only [List.length_drop, List.length_take]; rfl) | (simp only [ByteArray.size_append]; rfl)) ?_; (with_reducible refine (utf_First.calls kj20 ((a0 ++ a1).extract ((t230.size : Int) : Int).toNat (a0 ++ a1).size) t235 t236 t237 _ A41.out).mono ?_); rintro e w' ⟨rfl, ⟨nd, rfl⟩⟩; refine ⟨_, rfl, ?_⟩))
                                  go_ret
                                  exact ⟨by first | rfl | (simp [errW_none, errW_some] <;> rfl) | (simp [*, errW_none, errW_some] <;> rfl), by repeat (first | (with_reducible first | exact HB.out | apply below_alloc | apply pw_below_drewN | apply below_drew1) | exact HB.out)⟩
                                · rw [if_neg c42] at H
                                  have c42b0 : (t237 == 0) = false := beq_eq_false_iff_ne.mpr c42
                                  have c42b1 : (t237 != 0) = true := bne_iff_ne.mpr c42
                                  obtain rfl := Option.some.inj H
                                  go_wp2_with (first | ((with_reducible refine gate_callee (f := 14) rfl ?_); refine goesL_ (some 78) rfl rfl Try.func14 (by kernel_rfl) rfl #[.string ((a0 ++ a1).extract ((t230.size : Int) : Int).toNat (a0 ++ a1).size)] rfl (by (try simp only [List.map_toArray, List.map_cons, List.map_nil]); first | done | rfl | (simp only [List.length_drop, List.length_take]; rfl) | (simp only [ByteArray.size_append]; rfl)) ?_; (with_reducible refine (utf_First.calls kj20 ((a0 ++ a1).extract ((t230.size : Int) : Int).toNat (a0 ++ a1).size) t235 t236 t237 _ A41.out).mono ?_); rintro e w' ⟨rfl, ⟨nd, rfl⟩⟩; refine ⟨_, rfl, ?_⟩))
                                  go_ret
                                  exact ⟨by first | rfl | (simp [errW_none, errW_some] <;> rfl) | (simp [*, errW_none, errW_some] <;> rfl), by repeat (first | (with_reducible first | exact HB.out | apply below_alloc | apply pw_below_drewN | apply below_drew1) | exact HB.out)⟩
                            · rw [if_neg c39] at H
                              exact absurd H (by simp)
                          · rw [if_neg c38] at H
                            exact absurd H (by simp)
                        · rw [if_neg c37] at H
                          exact absurd H (by simp)
                · rw [if_neg c19] at H
                  exact absurd H (by simp)
  · replace c5 := Bool.eq_false_iff.mpr c5
    subst c5
    have H1 : (some false) = some r := by rw [if_neg (show ¬ (false = true) by decide)] at H; exact H
    clear H
    have H := H1
    clear H1
    obtain rfl := Option.some.inj H
    go_enter Try.func6, Try.ntmps6
    go_wp2_with (first | ((with_reducible refine gate_callee (f := 8) rfl ?_); refine goesL_ (some 12) rfl rfl Try.func8 (by kernel_rfl) rfl #[] rfl (by (try simp only [List.map_toArray, List.map_cons, List.map_nil]); first | done | rfl | (simp only [List.length_drop, List.length_take]; rfl)) ?_; (with_reducible refine (gonglaw04_works.calls  false _ A4.out).mono ?_); rintro e w43 ⟨rfl, hb⟩; refine ⟨_, rfl, ?_⟩; have n0_ := Aside0.mk (below_step (by repeat (first | (with_reducible first | exact HB.out | apply below_alloc | apply pw_below_drewN | apply below_drew1) | exact HB.out)) hb); clear HB; have HB := n0_; clear n0_; (try clear hb); (try clear hb2); (try clear hk); (try clear hi)))
    go_ret
    exact ⟨by first | rfl | (simp [errW_none, errW_some] <;> rfl) | (simp [*, errW_none, errW_some] <;> rfl), by repeat (first | (with_reducible first | exact HB.out | apply below_alloc | apply pw_below_drewN | apply below_drew1) | exact HB.out)⟩

/-- THE ONE PURE STATEMENT of gonglaw04_UtfCut: yours. -/
def gonglaw04_UtfCut.Pure : Prop := ∀ (a0 : ByteArray) (a1 : ByteArray) (a2 : Int), a0.size ≤ 140737488351232 → a1.size ≤ 140737488351232 → (Lit.int .i64 a2).wf = true → ∃ k, gonglaw04_UtfCut.f k a0 a1 a2 = some true
theorem gonglaw04_UtfCut.walk (P : gonglaw04_UtfCut.Pure) (a0 : ByteArray) (a1 : ByteArray) (a2 : Int) (w : World) (w0 : a0.size ≤ 140737488351232) (w1 : a1.size ≤ 140737488351232) (w2 : (Lit.int .i64 a2).wf = true) :
    Calls Try.prog 6 #[.string a0, .string a1, .int .i64 a2] w fun e w' => e = .returned (.bool true) ∧ Below w.heap.size w w' := by
  obtain ⟨k, h⟩ := P a0 a1 a2 w0 w1 w2
  refine (gonglaw04_UtfCut.calls k a0 a1 a2 true w h).mono ?_
  rintro e w' ⟨rfl, hd⟩
  exact ⟨rfl, hd⟩

/-! ### strings_Contains: function 28, by hand -/
def strings_Contains.f (a0 a1 : ByteArray) : Option Bool := if a1.size = 1 then some (decide (0 ≤ Lib.indexByte a0.data.toList (a1.data.toList.getD 0 0))) else none
theorem strings_Contains.calls (a0 a1 : ByteArray) (r : Bool) (w : World) (h : strings_Contains.f a0 a1 = some r) :
    Calls Try.prog 28 #[.string a0, .string a1] w fun e w' => e = .returned (.bool r) ∧ Below w.heap.size w w' := by
  unfold strings_Contains.f at h
  by_cases h1 : a1.size = 1
  · rw [if_pos h1] at h
    injection h with h
    obtain ⟨c, hc⟩ : ∃ c, a1.data.toList = [c] := List.length_eq_one_iff.mp (by simpa using h1)
    have e : a1 = ⟨#[c]⟩ := Str.ext hc
    subst e
    subst h
    refine (Try.strings_Contains_one a0 c w).mono ?_
    rintro e w' ⟨rfl, hw⟩
    exact ⟨rfl, by first | (subst hw; exact Below.refl _ _) | exact hw⟩
  · rw [if_neg h1] at h
    cases h

end Go.Proofs.Ythhpoogocpdbjaa.Px
