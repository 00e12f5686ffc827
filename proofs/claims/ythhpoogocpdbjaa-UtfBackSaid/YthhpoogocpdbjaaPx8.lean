-- Laid by wip/hprint.py: the kit's print of the translation, turned in places, beside contracts that this session wrote by hand; Lean checks all of it.
import Derived.Test.YthhpoogocpdbjaaPx0
import Derived.Test.YthhpoogocpdbjaaPx1
import Derived.Test.YthhpoogocpdbjaaPx2
import Derived.Test.YthhpoogocpdbjaaPx4
import Derived.Test.YthhpoogocpdbjaaPx5
import Derived.Test.YthhpoogocpdbjaaPx6
import Derived.Test.YthhpoogocpdbjaaPx7
namespace Go.Proofs.Ythhpoogocpdbjaa.Px
open Go.RowKit Go.Proofs.YthhpoogocpdbjaaW.PrintWords Go.Proofs.YthhpoogocpdbjaaW.PrintLast Go.Proofs.YthhpoogocpdbjaaW.PrintMore
attribute [local go_sem] max2_int min2_int max_two min_two max_three min_three max_four min_four   -- for this text's walks alone
set_option linter.unusedVariables false
set_option linter.unusedSimpArgs false

/-! ### gonglaw04_UtfReads: function 4 -/
def gonglaw04_UtfReads.j0 : Nat → ByteArray → List Int → Bool → Option (Bool)
  | 0, _, _, _ => none
  | k + 1, x0, x9, x17 => (gongbook_SpoilInts.f k x9).bind fun t200 => (if x17 = true then ((utf_Check.f k x0).bind fun t201 => ((gongref04_Check.f k x0).bind fun t202 => (if t201 = t202 then ((utf_Shown.f x0).bind fun t203 => ((gongref04_Shown.f k x0).bind fun t204 => (if t203.toList = t204.toList then ((gonglaw04_works.f).bind fun t205 => (some t205)) else (some false)))) else (some false)))) else (some false))
def gonglaw04_UtfReads.f (k : Nat) (a0 : ByteArray) : Option (Bool) := if (a0.size : Int) > 1000 then ((gonglaw04_works.f).bind fun t180 => (some t180)) else ((utf_First.f k a0).bind fun bt181 => ((gongref04_First.f k a0).bind fun bt184 => ((utf_Chars.f k a0).bind fun bt187 => ((gongref04_Chars.f k a0).bind fun bt191 => ((utf_Mark.f a0).bind fun bt195 => ((gongref04_Mark.f a0).bind fun bt197 => (if bt181.1 = bt184.1 then (if bt181.2.1 = bt184.2.1 then (if bt181.2.2 = bt184.2.2 then ((gongbook_SameInts.f k bt187.1 bt191.1).bind fun t199 => (if t199 = true then (if bt187.2 = bt191.2 then (if bt195.1.toList = bt197.1.toList then (gonglaw04_UtfReads.j0 k a0 bt187.1 (bt195.2 == bt197.2)) else (gonglaw04_UtfReads.j0 k a0 bt187.1 false)) else (gonglaw04_UtfReads.j0 k a0 bt187.1 false)) else (gonglaw04_UtfReads.j0 k a0 bt187.1 false))) else (gonglaw04_UtfReads.j0 k a0 bt187.1 false)) else (gonglaw04_UtfReads.j0 k a0 bt187.1 false)) else (gonglaw04_UtfReads.j0 k a0 bt187.1 false))))))))
theorem gonglaw04_UtfReads.mono_l : ∀ k, (∀ y0 y1 y2, LeO (gonglaw04_UtfReads.j0 k y0 y1 y2) (gonglaw04_UtfReads.j0 (k + 1) y0 y1 y2))
  | 0 => fun _ _ _ r h => by simp [gonglaw04_UtfReads.j0] at h
  | k + 1 => by
    have ih0 := gonglaw04_UtfReads.mono_l k
    · intro y0 y1 y2
      unfold gonglaw04_UtfReads.j0
      repeat' first
      | (with_reducible exact ih0 _ _ _)
      | (with_reducible exact gongbook_SameInts.mono _ _ _)
      | (with_reducible exact gongbook_SpoilInts.mono _ _)
      | (with_reducible exact gongref04_Chars.mono _ _)
      | (with_reducible exact gongref04_Check.mono _ _)
      | (with_reducible exact gongref04_First.mono _ _)
      | (with_reducible exact gongref04_Shown.mono _ _)
      | (with_reducible exact utf_Chars.mono _ _)
      | (with_reducible exact utf_Check.mono _ _)
      | (with_reducible exact utf_First.mono _ _)
      | (with_reducible exact LeO.refl _)
      | (with_reducible exact LeO.none _)
      | (with_reducible refine LeO.ite ?_ ?_)
      | (with_reducible refine LeO.bind ?_ (fun _ => ?_))
      | exact ih0 _ _ _
      | exact gongbook_SameInts.mono _ _ _
      | exact gongbook_SpoilInts.mono _ _
      | exact gongref04_Chars.mono _ _
      | exact gongref04_Check.mono _ _
      | exact gongref04_First.mono _ _
      | exact gongref04_Shown.mono _ _
      | exact utf_Chars.mono _ _
      | exact utf_Check.mono _ _
      | exact utf_First.mono _ _
      | exact LeO.none _
      | refine LeO.ite ?_ ?_
      | refine LeO.bind ?_ (fun _ => ?_)
theorem gonglaw04_UtfReads.mono : ∀ a0 k, LeO (gonglaw04_UtfReads.f k a0) (gonglaw04_UtfReads.f (k + 1) a0) := by
  intro a0 k
  have ih0 := gonglaw04_UtfReads.mono_l k
  unfold gonglaw04_UtfReads.f
  repeat' first
      | (with_reducible exact ih0 _ _ _)
      | (with_reducible exact gongbook_SameInts.mono _ _ _)
      | (with_reducible exact gongbook_SpoilInts.mono _ _)
      | (with_reducible exact gongref04_Chars.mono _ _)
      | (with_reducible exact gongref04_Check.mono _ _)
      | (with_reducible exact gongref04_First.mono _ _)
      | (with_reducible exact gongref04_Shown.mono _ _)
      | (with_reducible exact utf_Chars.mono _ _)
      | (with_reducible exact utf_Check.mono _ _)
      | (with_reducible exact utf_First.mono _ _)
      | (with_reducible exact LeO.refl _)
      | (with_reducible exact LeO.none _)
      | (with_reducible refine LeO.ite ?_ ?_)
      | (with_reducible refine LeO.bind ?_ (fun _ => ?_))
      | exact ih0 _ _ _
      | exact gongbook_SameInts.mono _ _ _
      | exact gongbook_SpoilInts.mono _ _
      | exact gongref04_Chars.mono _ _
      | exact gongref04_Check.mono _ _
      | exact gongref04_First.mono _ _
      | exact gongref04_Shown.mono _ _
      | exact utf_Chars.mono _ _
      | exact utf_Check.mono _ _
      | exact utf_First.mono _ _
      | exact LeO.none _
      | refine LeO.ite ?_ ?_
      | refine LeO.bind ?_ (fun _ => ?_)
set_option maxHeartbeats 8000000 in
set_option maxRecDepth 100000 in
theorem gonglaw04_UtfReads.calls (k : Nat) (a0 : ByteArray) (r : Bool) (w : World) (h : gonglaw04_UtfReads.f k a0 = some r) :
    Calls Try.prog 4 #[.string a0] w fun e w' => e = .returned (.bool r) ∧ Below w.heap.size w w' := by
  have HB := Aside0.mk (Below.refl w.heap.size w)
  have H : (if (a0.size : Int) > 1000 then ((gonglaw04_works.f).bind fun t180 => (some t180)) else ((utf_First.f k a0).bind fun bt181 => ((gongref04_First.f k a0).bind fun bt184 => ((utf_Chars.f k a0).bind fun bt187 => ((gongref04_Chars.f k a0).bind fun bt191 => ((utf_Mark.f a0).bind fun bt195 => ((gongref04_Mark.f a0).bind fun bt197 => (if bt181.1 = bt184.1 then (if bt181.2.1 = bt184.2.1 then (if bt181.2.2 = bt184.2.2 then ((gongbook_SameInts.f k bt187.1 bt191.1).bind fun t199 => (if t199 = true then (if bt187.2 = bt191.2 then (if bt195.1.toList = bt197.1.toList then (gonglaw04_UtfReads.j0 k a0 bt187.1 (bt195.2 == bt197.2)) else (gonglaw04_UtfReads.j0 k a0 bt187.1 false)) else (gonglaw04_UtfReads.j0 k a0 bt187.1 false)) else (gonglaw04_UtfReads.j0 k a0 bt187.1 false))) else (gonglaw04_UtfReads.j0 k a0 bt187.1 false)) else (gonglaw04_UtfReads.j0 k a0 bt187.1 false)) else (gonglaw04_UtfReads.j0 k a0 bt187.1 false))))))))) = some r := h
  clear h
  by_cases c2 : (a0.size : Int) > 1000
  · rw [if_pos c2] at H
    have c2b0 : decide (1000 < (a0.size : Int)) = true := decide_eq_true c2
    have c2b1 : decide (1000 < a0.size) = true := decide_eq_true (by omega)
    clear c2
    replace H := Option.bind_eq_some_iff.mp H
    obtain ⟨t180, A30, H⟩ := H
    replace H : (some t180) = some r := H
    have A3 := Aside0.mk A30
    clear A30
    obtain rfl := Option.some.inj H
    go_enter Try.func4, Try.ntmps4
    go_wp2_with (first | ((with_reducible refine gate_callee (f := 8) rfl ?_); refine goesL_ (some 21) rfl rfl Try.func8 (by kernel_rfl) rfl #[] rfl (by (try simp only [List.map_toArray, List.map_cons, List.map_nil]); first | done | rfl | (simp only [List.length_drop, List.length_take]; rfl)) ?_; (with_reducible refine (gonglaw04_works.calls  t180 _ A3.out).mono ?_); rintro e w4 ⟨rfl, hb⟩; refine ⟨_, rfl, ?_⟩; have n0_ := Aside0.mk (below_step (by repeat (first | (with_reducible first | exact HB.out | apply below_alloc | apply pw_below_drewN | apply below_drew1) | exact HB.out)) hb); clear HB; have HB := n0_; clear n0_; (try clear hb); (try clear hb2); (try clear hk); (try clear hi)))
    go_ret
    exact ⟨by first | rfl | (simp [errW_none, errW_some] <;> rfl) | (simp [*, errW_none, errW_some] <;> rfl), by repeat (first | (with_reducible first | exact HB.out | apply below_alloc | apply pw_below_drewN | apply below_drew1) | exact HB.out)⟩
  · rw [if_neg c2] at H
    have c2b0 : decide (1000 < (a0.size : Int)) = false := decide_eq_false c2
    have c2b1 : decide (1000 < a0.size) = false := decide_eq_false (by omega)
    clear c2
    replace H := Option.bind_eq_some_iff.mp H
    obtain ⟨⟨t181, t182, t183⟩, A50, H⟩ := H
    replace H : ((gongref04_First.f k a0).bind fun bt184 => ((utf_Chars.f k a0).bind fun bt187 => ((gongref04_Chars.f k a0).bind fun bt191 => ((utf_Mark.f a0).bind fun bt195 => ((gongref04_Mark.f a0).bind fun bt197 => (if t181 = bt184.1 then (if t182 = bt184.2.1 then (if t183 = bt184.2.2 then ((gongbook_SameInts.f k bt187.1 bt191.1).bind fun t199 => (if t199 = true then (if bt187.2 = bt191.2 then (if bt195.1.toList = bt197.1.toList then (gonglaw04_UtfReads.j0 k a0 bt187.1 (bt195.2 == bt197.2)) else (gonglaw04_UtfReads.j0 k a0 bt187.1 false)) else (gonglaw04_UtfReads.j0 k a0 bt187.1 false)) else (gonglaw04_UtfReads.j0 k a0 bt187.1 false))) else (gonglaw04_UtfReads.j0 k a0 bt187.1 false)) else (gonglaw04_UtfReads.j0 k a0 bt187.1 false)) else (gonglaw04_UtfReads.j0 k a0 bt187.1 false))))))) = some r := H
    have A5 := Aside0.mk A50
    clear A50
    replace H := Option.bind_eq_some_iff.mp H
    obtain ⟨⟨t184, t185, t186⟩, A60, H⟩ := H
    replace H : ((utf_Chars.f k a0).bind fun bt187 => ((gongref04_Chars.f k a0).bind fun bt191 => ((utf_Mark.f a0).bind fun bt195 => ((gongref04_Mark.f a0).bind fun bt197 => (if t181 = t184 then (if t182 = t185 then (if t183 = t186 then ((gongbook_SameInts.f k bt187.1 bt191.1).bind fun t199 => (if t199 = true then (if bt187.2 = bt191.2 then (if bt195.1.toList = bt197.1.toList then (gonglaw04_UtfReads.j0 k a0 bt187.1 (bt195.2 == bt197.2)) else (gonglaw04_UtfReads.j0 k a0 bt187.1 false)) else (gonglaw04_UtfReads.j0 k a0 bt187.1 false)) else (gonglaw04_UtfReads.j0 k a0 bt187.1 false))) else (gonglaw04_UtfReads.j0 k a0 bt187.1 false)) else (gonglaw04_UtfReads.j0 k a0 bt187.1 false)) else (gonglaw04_UtfReads.j0 k a0 bt187.1 false)))))) = some r := H
    have A6 := Aside0.mk A60
    clear A60
    replace H := Option.bind_eq_some_iff.mp H
    obtain ⟨⟨t187, t188⟩, A70, H⟩ := H
    replace H : ((gongref04_Chars.f k a0).bind fun bt191 => ((utf_Mark.f a0).bind fun bt195 => ((gongref04_Mark.f a0).bind fun bt197 => (if t181 = t184 then (if t182 = t185 then (if t183 = t186 then ((gongbook_SameInts.f k t187 bt191.1).bind fun t199 => (if t199 = true then (if t188 = bt191.2 then (if bt195.1.toList = bt197.1.toList then (gonglaw04_UtfReads.j0 k a0 t187 (bt195.2 == bt197.2)) else (gonglaw04_UtfReads.j0 k a0 t187 false)) else (gonglaw04_UtfReads.j0 k a0 t187 false)) else (gonglaw04_UtfReads.j0 k a0 t187 false))) else (gonglaw04_UtfReads.j0 k a0 t187 false)) else (gonglaw04_UtfReads.j0 k a0 t187 false)) else (gonglaw04_UtfReads.j0 k a0 t187 false))))) = some r := H
    have A7 := Aside0.mk A70
    clear A70
    replace H := Option.bind_eq_some_iff.mp H
    obtain ⟨⟨t191, t192⟩, A80, H⟩ := H
    replace H : ((utf_Mark.f a0).bind fun bt195 => ((gongref04_Mark.f a0).bind fun bt197 => (if t181 = t184 then (if t182 = t185 then (if t183 = t186 then ((gongbook_SameInts.f k t187 t191).bind fun t199 => (if t199 = true then (if t188 = t192 then (if bt195.1.toList = bt197.1.toList then (gonglaw04_UtfReads.j0 k a0 t187 (bt195.2 == bt197.2)) else (gonglaw04_UtfReads.j0 k a0 t187 false)) else (gonglaw04_UtfReads.j0 k a0 t187 false)) else (gonglaw04_UtfReads.j0 k a0 t187 false))) else (gonglaw04_UtfReads.j0 k a0 t187 false)) else (gonglaw04_UtfReads.j0 k a0 t187 false)) else (gonglaw04_UtfReads.j0 k a0 t187 false)))) = some r := H
    have A8 := Aside0.mk A80
    clear A80
    replace H := Option.bind_eq_some_iff.mp H
    obtain ⟨⟨t195, t196⟩, A90, H⟩ := H
    replace H : ((gongref04_Mark.f a0).bind fun bt197 => (if t181 = t184 then (if t182 = t185 then (if t183 = t186 then ((gongbook_SameInts.f k t187 t191).bind fun t199 => (if t199 = true then (if t188 = t192 then (if t195.toList = bt197.1.toList then (gonglaw04_UtfReads.j0 k a0 t187 (t196 == bt197.2)) else (gonglaw04_UtfReads.j0 k a0 t187 false)) else (gonglaw04_UtfReads.j0 k a0 t187 false)) else (gonglaw04_UtfReads.j0 k a0 t187 false))) else (gonglaw04_UtfReads.j0 k a0 t187 false)) else (gonglaw04_UtfReads.j0 k a0 t187 false)) else (gonglaw04_UtfReads.j0 k a0 t187 false))) = some r := H
    have A9 := Aside0.mk A90
    clear A90
    replace H := Option.bind_eq_some_iff.mp H
    obtain ⟨⟨t197, t198⟩, A100, H⟩ := H
    replace H : (if t181 = t184 then (if t182 = t185 then (if t183 = t186 then ((gongbook_SameInts.f k t187 t191).bind fun t199 => (if t199 = true then (if t188 = t192 then (if t195.toList = t197.toList then (gonglaw04_UtfReads.j0 k a0 t187 (t196 == t198)) else (gonglaw04_UtfReads.j0 k a0 t187 false)) else (gonglaw04_UtfReads.j0 k a0 t187 false)) else (gonglaw04_UtfReads.j0 k a0 t187 false))) else (gonglaw04_UtfReads.j0 k a0 t187 false)) else (gonglaw04_UtfReads.j0 k a0 t187 false)) else (gonglaw04_UtfReads.j0 k a0 t187 false)) = some r := H
    have A10 := Aside0.mk A100
    clear A100
    have HC11 := Aside0.mk H
    clear H
    go_enter Try.func4, Try.ntmps4
    go_upto_region 9 with (first | ((with_reducible refine gate_callee (f := 14) rfl ?_); refine goesL_ (some 24) rfl rfl Try.func14 (by kernel_rfl) rfl #[.string a0] rfl (by (try simp only [List.map_toArray, List.map_cons, List.map_nil]); first | done | rfl | (simp only [List.length_drop, List.length_take]; rfl)) ?_; (with_reducible refine (utf_First.calls k a0 t181 t182 t183 _ A5.out).mono ?_); rintro e w' ⟨rfl, ⟨nd, rfl⟩⟩; refine ⟨_, rfl, ?_⟩) | ((with_reducible refine gate_callee (f := 15) rfl ?_); refine goesL_ (some 30) rfl rfl Try.func15 (by kernel_rfl) rfl #[.string a0] rfl (by (try simp only [List.map_toArray, List.map_cons, List.map_nil]); first | done | rfl | (simp only [List.length_drop, List.length_take]; rfl)) ?_; (with_reducible refine (gongref04_First.calls k a0 t184 t185 t186 _ A6.out).mono ?_); rintro e w12 ⟨rfl, hb⟩; refine ⟨_, rfl, ?_⟩; have n0_ := Aside0.mk (below_step (by repeat (first | (with_reducible first | exact HB.out | apply below_alloc | apply pw_below_drewN | apply below_drew1) | exact HB.out)) hb); clear HB; have HB := n0_; clear n0_; (try clear hb); (try clear hb2); (try clear hk); (try clear hi)) | ((with_reducible refine gate_callee (f := 11) rfl ?_); refine goesL_ (some 36) rfl rfl Try.func11 (by kernel_rfl) rfl #[.string a0] rfl (by (try simp only [List.map_toArray, List.map_cons, List.map_nil]); first | done | rfl | (simp only [List.length_drop, List.length_take]; rfl)) ?_; (with_reducible refine (utf_Chars.calls k a0 t187 t188 _ A7.out).mono ?_); rintro e w13 ⟨v189, rfl, ho0, hb⟩; refine ⟨_, rfl, ?_⟩; have n0_ := Aside0.mk (Kd.R_lower ho0 (below_size (by repeat (first | (with_reducible first | exact HB.out | apply below_alloc | apply pw_below_drewN | apply below_drew1) | exact HB.out)))); have n1_ := Aside0.mk (below_step (by repeat (first | (with_reducible first | exact HB.out | apply below_alloc | apply pw_below_drewN | apply below_drew1) | exact HB.out)) hb); clear HB; have HO190 := n0_; have HB := n1_; clear n0_ n1_; (try clear hb); (try clear hb2); (try clear hk); (try clear hi); (try clear ho0)) | ((with_reducible refine gate_callee (f := 16) rfl ?_); refine goesL_ (some 41) rfl rfl Try.func16 (by kernel_rfl) rfl #[.string a0] rfl (by (try simp only [List.map_toArray, List.map_cons, List.map_nil]); first | done | rfl | (simp only [List.length_drop, List.length_take]; rfl)) ?_; (with_reducible refine (gongref04_Chars.calls k a0 t191 t192 _ A8.out).mono ?_); rintro e w14 ⟨v193, rfl, ho0, hb⟩; refine ⟨_, rfl, ?_⟩; have n0_ := Aside0.mk (Kd.R_elder' (by (with_reducible repeat (first | apply Kd.R_alloc | apply Kd.R_drewN | apply Kd.R_drew)); exact HO190.out) (Kd.R_base ho0) hb); have n1_ := Aside0.mk (Kd.R_lower (Kd.R_new' ho0 (Kd.R_lt (by (with_reducible repeat (first | apply Kd.R_alloc | apply Kd.R_drewN | apply Kd.R_drew)); exact HO190.out))) (below_size (by repeat (first | (with_reducible first | exact HB.out | apply below_alloc | apply pw_below_drewN | apply below_drew1) | exact HB.out)))); have n2_ := Aside0.mk (below_step (by repeat (first | (with_reducible first | exact HB.out | apply below_alloc | apply pw_below_drewN | apply below_drew1) | exact HB.out)) hb); clear HO190; clear HB; have HO190 := n0_; have HO194 := n1_; have HB := n2_; clear n0_ n1_ n2_; (try clear hb); (try clear hb2); (try clear hk); (try clear hi); (try clear ho0)) | ((with_reducible refine gate_callee (f := 17) rfl ?_); refine goesL_ (some 46) rfl rfl Try.func17 (by kernel_rfl) rfl #[.string a0] rfl (by (try simp only [List.map_toArray, List.map_cons, List.map_nil]); first | done | rfl | (simp only [List.length_drop, List.length_take]; rfl)) ?_; (with_reducible refine (utf_Mark.calls a0 t195 t196 _ A9.out).mono ?_); rintro e w' ⟨rfl, ⟨nd, rfl⟩⟩; refine ⟨_, rfl, ?_⟩) | ((with_reducible refine gate_callee (f := 18) rfl ?_); refine goesL_ (some 51) rfl rfl Try.func18 (by kernel_rfl) rfl #[.string a0] rfl (by (try simp only [List.map_toArray, List.map_cons, List.map_nil]); first | done | rfl | (simp only [List.length_drop, List.length_take]; rfl)) ?_; (with_reducible refine (gongref04_Mark.calls a0 t197 t198 _ A10.out).mono ?_); rintro e w' ⟨rfl, ⟨nd, rfl⟩⟩; refine ⟨_, rfl, ?_⟩))
    (try simp only [Act.put, List.setIfInBounds_toArray, List.set_cons_zero, List.set_cons_succ])
    go_cut [17] (fun v17 wc => ∃ (kq : Nat) (x17_10 : Bool), v17 = .bool x17_10 ∧ Aside0 (gonglaw04_UtfReads.j0 kq a0 t187 x17_10 = some r) ∧ Aside0 (kq ≤ k) ∧ Aside0 (Kd.R (Kd.int .i64) 3 wc w.heap.size (fun _ => True) v189 t187) ∧ Aside0 (Below w.heap.size w wc))
    case first =>
      have H := HC11.out
      clear HC11
      by_cases c15 : t181 = t184
      · rw [if_pos c15] at H
        have c15b0 : (t181 == t184) = true := beq_iff_eq.mpr c15
        have c15b1 : (t181 != t184) = false := bne_eq_false_iff_eq.mpr c15
        clear c15
        (first | rw [c15b0] | (simp only [i64_w, i32_w]; rw [c15b0]) | skip)
        by_cases c16 : t182 = t185
        · rw [if_pos c16] at H
          have c16b0 : (t182 == t185) = true := beq_iff_eq.mpr c16
          have c16b1 : (t182 != t185) = false := bne_eq_false_iff_eq.mpr c16
          clear c16
          by_cases c17 : t183 = t186
          · rw [if_pos c17] at H
            have c17b0 : (t183 == t186) = true := beq_iff_eq.mpr c17
            have c17b1 : (t183 != t186) = false := bne_eq_false_iff_eq.mpr c17
            clear c17
            replace H := Option.bind_eq_some_iff.mp H
            obtain ⟨t199, A180, H⟩ := H
            replace H : (if t199 = true then (if t188 = t192 then (if t195.toList = t197.toList then (gonglaw04_UtfReads.j0 k a0 t187 (t196 == t198)) else (gonglaw04_UtfReads.j0 k a0 t187 false)) else (gonglaw04_UtfReads.j0 k a0 t187 false)) else (gonglaw04_UtfReads.j0 k a0 t187 false)) = some r := H
            have A18 := Aside0.mk A180
            clear A180
            by_cases c19 : t199 = true
            · subst c19
              have H1 : (if t188 = t192 then (if t195.toList = t197.toList then (gonglaw04_UtfReads.j0 k a0 t187 (t196 == t198)) else (gonglaw04_UtfReads.j0 k a0 t187 false)) else (gonglaw04_UtfReads.j0 k a0 t187 false)) = some r := by rw [if_pos rfl] at H; exact H
              clear H
              have H := H1
              clear H1
              by_cases c20 : t188 = t192
              · rw [if_pos c20] at H
                have c20b0 : (t188 == t192) = true := beq_iff_eq.mpr c20
                have c20b1 : (t188 != t192) = false := bne_eq_false_iff_eq.mpr c20
                clear c20
                by_cases c21 : t195.toList = t197.toList
                · rw [if_pos c21] at H
                  have c21b0 : (t195.toList == t197.toList) = true := beq_iff_eq.mpr c21
                  have c21b1 : (t195.toList != t197.toList) = false := bne_eq_false_iff_eq.mpr c21
                  clear c21
                  have H' := Aside0.mk H
                  clear H
                  obtain ⟨Ao22, co22, eo22⟩ := Kd.R_slice HO190.out
                  subst eo22
                  obtain ⟨Ao23, co23, eo23⟩ := Kd.R_slice HO194.out
                  subst eo23
                  go_wp2_with (first | (go_at_call 13; (with_reducible refine (gongbook_SameInts.calls k _ _ t187 _ _ t191 true _ ?side1 ?side2 ?side3 ?side4 A18.out).mono ?_); (case side1 => repeat (first | exact (Kd.R_reads' HO190.out).2.2 | (with_reducible refine Kd.C_alloc ?_ _) | (with_reducible refine Kd.C_drewN ?_ _) | (with_reducible refine Kd.C_drew ?_))); (case side2 => exact (Kd.R_reads' HO190.out).2.1); (case side3 => repeat (first | exact (Kd.R_reads' HO194.out).2.2 | (with_reducible refine Kd.C_alloc ?_ _) | (with_reducible refine Kd.C_drewN ?_ _) | (with_reducible refine Kd.C_drew ?_))); (case side4 => exact (Kd.R_reads' HO194.out).2.1); rintro e w' ⟨rfl, ⟨nd, rfl⟩⟩))
                  go_meet
                  case rel => exact ⟨_, ((t196 == t198)), (by first | rfl | (simp; done) | (simp [*]; done)), H', ⟨by first | omega | exact Nat.le_refl _⟩, ⟨by (with_reducible repeat (first | apply Kd.R_alloc | apply Kd.R_drewN | apply Kd.R_drew)); exact Kd.R_mono HO190.out (fun _ hk => trivial)⟩, ⟨by repeat (first | (with_reducible first | exact HB.out | apply below_alloc | apply pw_below_drewN | apply below_drew1) | exact HB.out)⟩⟩
                · rw [if_neg c21] at H
                  have c21b0 : (t195.toList == t197.toList) = false := beq_eq_false_iff_ne.mpr c21
                  have c21b1 : (t195.toList != t197.toList) = true := bne_iff_ne.mpr c21
                  have H' := Aside0.mk H
                  clear H
                  obtain ⟨Ao24, co24, eo24⟩ := Kd.R_slice HO190.out
                  subst eo24
                  obtain ⟨Ao25, co25, eo25⟩ := Kd.R_slice HO194.out
                  subst eo25
                  go_wp2_with (first | (go_at_call 13; (with_reducible refine (gongbook_SameInts.calls k _ _ t187 _ _ t191 true _ ?side1 ?side2 ?side3 ?side4 A18.out).mono ?_); (case side1 => repeat (first | exact (Kd.R_reads' HO190.out).2.2 | (with_reducible refine Kd.C_alloc ?_ _) | (with_reducible refine Kd.C_drewN ?_ _) | (with_reducible refine Kd.C_drew ?_))); (case side2 => exact (Kd.R_reads' HO190.out).2.1); (case side3 => repeat (first | exact (Kd.R_reads' HO194.out).2.2 | (with_reducible refine Kd.C_alloc ?_ _) | (with_reducible refine Kd.C_drewN ?_ _) | (with_reducible refine Kd.C_drew ?_))); (case side4 => exact (Kd.R_reads' HO194.out).2.1); rintro e w' ⟨rfl, ⟨nd, rfl⟩⟩))
                  go_meet
                  case rel => exact ⟨_, (false), (by first | rfl | (simp; done) | (simp [*]; done)), H', ⟨by first | omega | exact Nat.le_refl _⟩, ⟨by (with_reducible repeat (first | apply Kd.R_alloc | apply Kd.R_drewN | apply Kd.R_drew)); exact Kd.R_mono HO190.out (fun _ hk => trivial)⟩, ⟨by repeat (first | (with_reducible first | exact HB.out | apply below_alloc | apply pw_below_drewN | apply below_drew1) | exact HB.out)⟩⟩
              · rw [if_neg c20] at H
                have c20b0 : (t188 == t192) = false := beq_eq_false_iff_ne.mpr c20
                have c20b1 : (t188 != t192) = true := bne_iff_ne.mpr c20
                have H' := Aside0.mk H
                clear H
                obtain ⟨Ao26, co26, eo26⟩ := Kd.R_slice HO190.out
                subst eo26
                obtain ⟨Ao27, co27, eo27⟩ := Kd.R_slice HO194.out
                subst eo27
                go_wp2_with (first | (go_at_call 13; (with_reducible refine (gongbook_SameInts.calls k _ _ t187 _ _ t191 true _ ?side1 ?side2 ?side3 ?side4 A18.out).mono ?_); (case side1 => repeat (first | exact (Kd.R_reads' HO190.out).2.2 | (with_reducible refine Kd.C_alloc ?_ _) | (with_reducible refine Kd.C_drewN ?_ _) | (with_reducible refine Kd.C_drew ?_))); (case side2 => exact (Kd.R_reads' HO190.out).2.1); (case side3 => repeat (first | exact (Kd.R_reads' HO194.out).2.2 | (with_reducible refine Kd.C_alloc ?_ _) | (with_reducible refine Kd.C_drewN ?_ _) | (with_reducible refine Kd.C_drew ?_))); (case side4 => exact (Kd.R_reads' HO194.out).2.1); rintro e w' ⟨rfl, ⟨nd, rfl⟩⟩))
                go_meet
                case rel => exact ⟨_, (false), (by first | rfl | (simp; done) | (simp [*]; done)), H', ⟨by first | omega | exact Nat.le_refl _⟩, ⟨by (with_reducible repeat (first | apply Kd.R_alloc | apply Kd.R_drewN | apply Kd.R_drew)); exact Kd.R_mono HO190.out (fun _ hk => trivial)⟩, ⟨by repeat (first | (with_reducible first | exact HB.out | apply below_alloc | apply pw_below_drewN | apply below_drew1) | exact HB.out)⟩⟩
            · replace c19 := Bool.eq_false_iff.mpr c19
              subst c19
              have H1 : (gonglaw04_UtfReads.j0 k a0 t187 false) = some r := by rw [if_neg (show ¬ (false = true) by decide)] at H; exact H
              clear H
              have H := H1
              clear H1
              have H' := Aside0.mk H
              clear H
              obtain ⟨Ao28, co28, eo28⟩ := Kd.R_slice HO190.out
              subst eo28
              obtain ⟨Ao29, co29, eo29⟩ := Kd.R_slice HO194.out
              subst eo29
              go_wp2_with (first | (go_at_call 13; (with_reducible refine (gongbook_SameInts.calls k _ _ t187 _ _ t191 false _ ?side1 ?side2 ?side3 ?side4 A18.out).mono ?_); (case side1 => repeat (first | exact (Kd.R_reads' HO190.out).2.2 | (with_reducible refine Kd.C_alloc ?_ _) | (with_reducible refine Kd.C_drewN ?_ _) | (with_reducible refine Kd.C_drew ?_))); (case side2 => exact (Kd.R_reads' HO190.out).2.1); (case side3 => repeat (first | exact (Kd.R_reads' HO194.out).2.2 | (with_reducible refine Kd.C_alloc ?_ _) | (with_reducible refine Kd.C_drewN ?_ _) | (with_reducible refine Kd.C_drew ?_))); (case side4 => exact (Kd.R_reads' HO194.out).2.1); rintro e w' ⟨rfl, ⟨nd, rfl⟩⟩))
              go_meet
              case rel => exact ⟨_, (false), (by first | rfl | (simp; done) | (simp [*]; done)), H', ⟨by first | omega | exact Nat.le_refl _⟩, ⟨by (with_reducible repeat (first | apply Kd.R_alloc | apply Kd.R_drewN | apply Kd.R_drew)); exact Kd.R_mono HO190.out (fun _ hk => trivial)⟩, ⟨by repeat (first | (with_reducible first | exact HB.out | apply below_alloc | apply pw_below_drewN | apply below_drew1) | exact HB.out)⟩⟩
          · rw [if_neg c17] at H
            have c17b0 : (t183 == t186) = false := beq_eq_false_iff_ne.mpr c17
            have c17b1 : (t183 != t186) = true := bne_iff_ne.mpr c17
            have H' := Aside0.mk H
            clear H
            go_wp2
            go_meet
            case rel => exact ⟨_, (false), (by first | rfl | (simp; done) | (simp [*]; done)), H', ⟨by first | omega | exact Nat.le_refl _⟩, ⟨by (with_reducible repeat (first | apply Kd.R_alloc | apply Kd.R_drewN | apply Kd.R_drew)); exact Kd.R_mono HO190.out (fun _ hk => trivial)⟩, ⟨by repeat (first | (with_reducible first | exact HB.out | apply below_alloc | apply pw_below_drewN | apply below_drew1) | exact HB.out)⟩⟩
        · rw [if_neg c16] at H
          have c16b0 : (t182 == t185) = false := beq_eq_false_iff_ne.mpr c16
          have c16b1 : (t182 != t185) = true := bne_iff_ne.mpr c16
          have H' := Aside0.mk H
          clear H
          go_wp2
          go_meet
          case rel => exact ⟨_, (false), (by first | rfl | (simp; done) | (simp [*]; done)), H', ⟨by first | omega | exact Nat.le_refl _⟩, ⟨by (with_reducible repeat (first | apply Kd.R_alloc | apply Kd.R_drewN | apply Kd.R_drew)); exact Kd.R_mono HO190.out (fun _ hk => trivial)⟩, ⟨by repeat (first | (with_reducible first | exact HB.out | apply below_alloc | apply pw_below_drewN | apply below_drew1) | exact HB.out)⟩⟩
      · rw [if_neg c15] at H
        have c15b0 : (t181 == t184) = false := beq_eq_false_iff_ne.mpr c15
        have c15b1 : (t181 != t184) = true := bne_iff_ne.mpr c15
        (first | rw [c15b0] | (simp only [i64_w, i32_w]; rw [c15b0]) | skip)
        have H' := Aside0.mk H
        clear H
        go_wp2
        go_meet
        case rel => exact ⟨_, (false), (by first | rfl | (simp; done) | (simp [*]; done)), H', ⟨by first | omega | exact Nat.le_refl _⟩, ⟨by (with_reducible repeat (first | apply Kd.R_alloc | apply Kd.R_drewN | apply Kd.R_drew)); exact Kd.R_mono HO190.out (fun _ hk => trivial)⟩, ⟨by repeat (first | (with_reducible first | exact HB.out | apply below_alloc | apply pw_below_drewN | apply below_drew1) | exact HB.out)⟩⟩
    case rest =>
      clear HC11
      try clear c1
      try clear c2
      try clear c2b0
      try clear c2b1
      try clear p2
      try clear c4
      try clear c8
      try clear c11
      try clear c14
      try clear c15
      try clear c15b0
      try clear c15b1
      try clear c16
      try clear c16b0
      try clear c16b1
      try clear c17
      try clear c17b0
      try clear c17b1
      try clear c18
      try clear c19
      try clear c20
      try clear c20b0
      try clear c20b1
      try clear c21
      try clear c21b0
      try clear c21b1
      obtain ⟨kq, x17_10, rfl, HA, HJ10, HO_9, HB⟩ := hcut
      cases kq with
      | zero => exact absurd HA.out (by simp [gonglaw04_UtfReads.j0])
      | succ kj10 =>
        have H := HA.out
        clear HA
        simp only [gonglaw04_UtfReads.j0] at H
        replace H := Option.bind_eq_some_iff.mp H
        obtain ⟨t200, A300, H⟩ := H
        replace H : (if x17_10 = true then ((utf_Check.f kj10 a0).bind fun t201 => ((gongref04_Check.f kj10 a0).bind fun t202 => (if t201 = t202 then ((utf_Shown.f a0).bind fun t203 => ((gongref04_Shown.f kj10 a0).bind fun t204 => (if t203.toList = t204.toList then ((gonglaw04_works.f).bind fun t205 => (some t205)) else (some false)))) else (some false)))) else (some false)) = some r := H
        have A30 := Aside0.mk A300
        clear A300
        by_cases c31 : x17_10 = true
        · subst c31
          have H1 : ((utf_Check.f kj10 a0).bind fun t201 => ((gongref04_Check.f kj10 a0).bind fun t202 => (if t201 = t202 then ((utf_Shown.f a0).bind fun t203 => ((gongref04_Shown.f kj10 a0).bind fun t204 => (if t203.toList = t204.toList then ((gonglaw04_works.f).bind fun t205 => (some t205)) else (some false)))) else (some false)))) = some r := by rw [if_pos rfl] at H; exact H
          clear H
          have H := H1
          clear H1
          replace H := Option.bind_eq_some_iff.mp H
          obtain ⟨t201, A320, H⟩ := H
          replace H : ((gongref04_Check.f kj10 a0).bind fun t202 => (if t201 = t202 then ((utf_Shown.f a0).bind fun t203 => ((gongref04_Shown.f kj10 a0).bind fun t204 => (if t203.toList = t204.toList then ((gonglaw04_works.f).bind fun t205 => (some t205)) else (some false)))) else (some false))) = some r := H
          have A32 := Aside0.mk A320
          clear A320
          replace H := Option.bind_eq_some_iff.mp H
          obtain ⟨t202, A330, H⟩ := H
          replace H : (if t201 = t202 then ((utf_Shown.f a0).bind fun t203 => ((gongref04_Shown.f kj10 a0).bind fun t204 => (if t203.toList = t204.toList then ((gonglaw04_works.f).bind fun t205 => (some t205)) else (some false)))) else (some false)) = some r := H
          have A33 := Aside0.mk A330
          clear A330
          by_cases c34 : t201 = t202
          · rw [if_pos c34] at H
            have c34b0 : (t201 == t202) = true := beq_iff_eq.mpr c34
            have c34b1 : (t201 != t202) = false := bne_eq_false_iff_eq.mpr c34
            clear c34
            replace H := Option.bind_eq_some_iff.mp H
            obtain ⟨t203, A350, H⟩ := H
            replace H : ((gongref04_Shown.f kj10 a0).bind fun t204 => (if t203.toList = t204.toList then ((gonglaw04_works.f).bind fun t205 => (some t205)) else (some false))) = some r := H
            have A35 := Aside0.mk A350
            clear A350
            replace H := Option.bind_eq_some_iff.mp H
            obtain ⟨t204, A360, H⟩ := H
            replace H : (if t203.toList = t204.toList then ((gonglaw04_works.f).bind fun t205 => (some t205)) else (some false)) = some r := H
            have A36 := Aside0.mk A360
            clear A360
            by_cases c37 : t203.toList = t204.toList
            · rw [if_pos c37] at H
              have c37b0 : (t203.toList == t204.toList) = true := beq_iff_eq.mpr c37
              have c37b1 : (t203.toList != t204.toList) = false := bne_eq_false_iff_eq.mpr c37
              clear c37
              replace H := Option.bind_eq_some_iff.mp H
              obtain ⟨t205, A380, H⟩ := H
              replace H : (some t205) = some r := H
              have A38 := Aside0.mk A380
              clear A380
              obtain rfl := Option.some.inj H
              obtain ⟨Ao39, co39, eo39⟩ := Kd.R_slice HO_9.out
              subst eo39
              go_wp2_with (first | ((with_reducible refine gate_callee (f := 19) rfl ?_); refine goesL_ (some 88) rfl rfl Try.func19 (by kernel_rfl) rfl #[.slice Ao39 t187.length co39] rfl (by (try simp only [List.map_toArray, List.map_cons, List.map_nil]); first | done | rfl | (simp only [List.length_drop, List.length_take]; rfl)) ?_; (with_reducible refine (gongbook_SpoilInts.calls kj10 (fun k_ => some k_ = (.slice Ao39 t187.length co39 : Value).ownBlock) (.slice Ao39 t187.length co39) t187 t200 w _ ?side1 ?side2 A30.out).mono ?_); (case side1 => repeat (first | (with_reducible first | exact HB.out | apply below_alloc | apply pw_below_drewN | apply below_drew1) | exact HB.out)); (case side2 => exact Kd.R_tight rfl HO_9.out); rintro e w40 ⟨rfl, hy0, hb, hkp⟩; refine ⟨_, rfl, ?_⟩; have n0_ := Aside0.mk (Kd.R_reok rfl hy0 (fun k_ e_ => HO_9.out.1 k_ e_)); have n1_ := Aside0.mk (hb); clear HO_9; clear HB; have HO_9 := n0_; have HB := n1_; clear n0_ n1_; (try clear hb); (try clear hkp); (try clear hy0)) | (go_at_call 12; (with_reducible refine (utf_Check.calls kj10 a0 t201 _ A32.out).mono ?_); rintro e w41 ⟨rfl, hb⟩; have n0_ := Aside0.mk (Kd.R_below (by (with_reducible repeat (first | apply Kd.R_alloc | apply Kd.R_drewN | apply Kd.R_drew)); exact HO_9.out) hb); have n1_ := Aside0.mk (below_step (by repeat (first | (with_reducible first | exact HB.out | apply below_alloc | apply pw_below_drewN | apply below_drew1) | exact HB.out)) hb); clear HO_9; clear HB; have HO_9 := n0_; have HB := n1_; clear n0_ n1_; (try clear hb); (try clear hb2); (try clear hk); (try clear hi)) | (go_at_call 20; (with_reducible refine (gongref04_Check.calls kj10 a0 t202 _ A33.out).mono ?_); rintro e w42 ⟨rfl, hb⟩; have n0_ := Aside0.mk (Kd.R_below (by (with_reducible repeat (first | apply Kd.R_alloc | apply Kd.R_drewN | apply Kd.R_drew)); exact HO_9.out) hb); have n1_ := Aside0.mk (below_step (by repeat (first | (with_reducible first | exact HB.out | apply below_alloc | apply pw_below_drewN | apply below_drew1) | exact HB.out)) hb); clear HO_9; clear HB; have HO_9 := n0_; have HB := n1_; clear n0_ n1_; (try clear hb); (try clear hb2); (try clear hk); (try clear hi)) | (go_at_call 21; (with_reducible refine (utf_Shown.calls a0 t203 _ A35.out).mono ?_); rintro e w43 ⟨rfl, hb⟩; have n0_ := Aside0.mk (Kd.R_below (by (with_reducible repeat (first | apply Kd.R_alloc | apply Kd.R_drewN | apply Kd.R_drew)); exact HO_9.out) hb); have n1_ := Aside0.mk (below_step (by repeat (first | (with_reducible first | exact HB.out | apply below_alloc | apply pw_below_drewN | apply below_drew1) | exact HB.out)) hb); clear HO_9; clear HB; have HO_9 := n0_; have HB := n1_; clear n0_ n1_; (try clear hb); (try clear hb2); (try clear hk); (try clear hi)) | (go_at_call 22; (with_reducible refine (gongref04_Shown.calls kj10 a0 t204 _ A36.out).mono ?_); rintro e w44 ⟨rfl, hb⟩; have n0_ := Aside0.mk (Kd.R_below (by (with_reducible repeat (first | apply Kd.R_alloc | apply Kd.R_drewN | apply Kd.R_drew)); exact HO_9.out) hb); have n1_ := Aside0.mk (below_step (by repeat (first | (with_reducible first | exact HB.out | apply below_alloc | apply pw_below_drewN | apply below_drew1) | exact HB.out)) hb); clear HO_9; clear HB; have HO_9 := n0_; have HB := n1_; clear n0_ n1_; (try clear hb); (try clear hb2); (try clear hk); (try clear hi)) | (go_at_call 8; (with_reducible refine (gonglaw04_works.calls  t205 _ A38.out).mono ?_); rintro e w45 ⟨rfl, hb⟩; have n0_ := Aside0.mk (Kd.R_below (by (with_reducible repeat (first | apply Kd.R_alloc | apply Kd.R_drewN | apply Kd.R_drew)); exact HO_9.out) hb); have n1_ := Aside0.mk (below_step (by repeat (first | (with_reducible first | exact HB.out | apply below_alloc | apply pw_below_drewN | apply below_drew1) | exact HB.out)) hb); clear HO_9; clear HB; have HO_9 := n0_; have HB := n1_; clear n0_ n1_; (try clear hb); (try clear hb2); (try clear hk); (try clear hi)))
              go_ret
              exact ⟨by first | rfl | (simp [errW_none, errW_some] <;> rfl) | (simp [*, errW_none, errW_some] <;> rfl), by repeat (first | (with_reducible first | exact HB.out | apply below_alloc | apply pw_below_drewN | apply below_drew1) | exact HB.out)⟩
            · rw [if_neg c37] at H
              have c37b0 : (t203.toList == t204.toList) = false := beq_eq_false_iff_ne.mpr c37
              have c37b1 : (t203.toList != t204.toList) = true := bne_iff_ne.mpr c37
              obtain rfl := Option.some.inj H
              obtain ⟨Ao46, co46, eo46⟩ := Kd.R_slice HO_9.out
              subst eo46
              go_wp2_with (first | ((with_reducible refine gate_callee (f := 19) rfl ?_); refine goesL_ (some 88) rfl rfl Try.func19 (by kernel_rfl) rfl #[.slice Ao46 t187.length co46] rfl (by (try simp only [List.map_toArray, List.map_cons, List.map_nil]); first | done | rfl | (simp only [List.length_drop, List.length_take]; rfl)) ?_; (with_reducible refine (gongbook_SpoilInts.calls kj10 (fun k_ => some k_ = (.slice Ao46 t187.length co46 : Value).ownBlock) (.slice Ao46 t187.length co46) t187 t200 w _ ?side1 ?side2 A30.out).mono ?_); (case side1 => repeat (first | (with_reducible first | exact HB.out | apply below_alloc | apply pw_below_drewN | apply below_drew1) | exact HB.out)); (case side2 => exact Kd.R_tight rfl HO_9.out); rintro e w47 ⟨rfl, hy0, hb, hkp⟩; refine ⟨_, rfl, ?_⟩; have n0_ := Aside0.mk (Kd.R_reok rfl hy0 (fun k_ e_ => HO_9.out.1 k_ e_)); have n1_ := Aside0.mk (hb); clear HO_9; clear HB; have HO_9 := n0_; have HB := n1_; clear n0_ n1_; (try clear hb); (try clear hkp); (try clear hy0)) | (go_at_call 12; (with_reducible refine (utf_Check.calls kj10 a0 t201 _ A32.out).mono ?_); rintro e w48 ⟨rfl, hb⟩; have n0_ := Aside0.mk (Kd.R_below (by (with_reducible repeat (first | apply Kd.R_alloc | apply Kd.R_drewN | apply Kd.R_drew)); exact HO_9.out) hb); have n1_ := Aside0.mk (below_step (by repeat (first | (with_reducible first | exact HB.out | apply below_alloc | apply pw_below_drewN | apply below_drew1) | exact HB.out)) hb); clear HO_9; clear HB; have HO_9 := n0_; have HB := n1_; clear n0_ n1_; (try clear hb); (try clear hb2); (try clear hk); (try clear hi)) | (go_at_call 20; (with_reducible refine (gongref04_Check.calls kj10 a0 t202 _ A33.out).mono ?_); rintro e w49 ⟨rfl, hb⟩; have n0_ := Aside0.mk (Kd.R_below (by (with_reducible repeat (first | apply Kd.R_alloc | apply Kd.R_drewN | apply Kd.R_drew)); exact HO_9.out) hb); have n1_ := Aside0.mk (below_step (by repeat (first | (with_reducible first | exact HB.out | apply below_alloc | apply pw_below_drewN | apply below_drew1) | exact HB.out)) hb); clear HO_9; clear HB; have HO_9 := n0_; have HB := n1_; clear n0_ n1_; (try clear hb); (try clear hb2); (try clear hk); (try clear hi)) | (go_at_call 21; (with_reducible refine (utf_Shown.calls a0 t203 _ A35.out).mono ?_); rintro e w50 ⟨rfl, hb⟩; have n0_ := Aside0.mk (Kd.R_below (by (with_reducible repeat (first | apply Kd.R_alloc | apply Kd.R_drewN | apply Kd.R_drew)); exact HO_9.out) hb); have n1_ := Aside0.mk (below_step (by repeat (first | (with_reducible first | exact HB.out | apply below_alloc | apply pw_below_drewN | apply below_drew1) | exact HB.out)) hb); clear HO_9; clear HB; have HO_9 := n0_; have HB := n1_; clear n0_ n1_; (try clear hb); (try clear hb2); (try clear hk); (try clear hi)) | (go_at_call 22; (with_reducible refine (gongref04_Shown.calls kj10 a0 t204 _ A36.out).mono ?_); rintro e w51 ⟨rfl, hb⟩; have n0_ := Aside0.mk (Kd.R_below (by (with_reducible repeat (first | apply Kd.R_alloc | apply Kd.R_drewN | apply Kd.R_drew)); exact HO_9.out) hb); have n1_ := Aside0.mk (below_step (by repeat (first | (with_reducible first | exact HB.out | apply below_alloc | apply pw_below_drewN | apply below_drew1) | exact HB.out)) hb); clear HO_9; clear HB; have HO_9 := n0_; have HB := n1_; clear n0_ n1_; (try clear hb); (try clear hb2); (try clear hk); (try clear hi)))
              go_ret
              exact ⟨by first | rfl | (simp [errW_none, errW_some] <;> rfl) | (simp [*, errW_none, errW_some] <;> rfl), by repeat (first | (with_reducible first | exact HB.out | apply below_alloc | apply pw_below_drewN | apply below_drew1) | exact HB.out)⟩
          · rw [if_neg c34] at H
            have c34b0 : (t201 == t202) = false := beq_eq_false_iff_ne.mpr c34
            have c34b1 : (t201 != t202) = true := bne_iff_ne.mpr c34
            obtain rfl := Option.some.inj H
            obtain ⟨Ao52, co52, eo52⟩ := Kd.R_slice HO_9.out
            subst eo52
            go_wp2_with (first | ((with_reducible refine gate_callee (f := 19) rfl ?_); refine goesL_ (some 88) rfl rfl Try.func19 (by kernel_rfl) rfl #[.slice Ao52 t187.length co52] rfl (by (try simp only [List.map_toArray, List.map_cons, List.map_nil]); first | done | rfl | (simp only [List.length_drop, List.length_take]; rfl)) ?_; (with_reducible refine (gongbook_SpoilInts.calls kj10 (fun k_ => some k_ = (.slice Ao52 t187.length co52 : Value).ownBlock) (.slice Ao52 t187.length co52) t187 t200 w _ ?side1 ?side2 A30.out).mono ?_); (case side1 => repeat (first | (with_reducible first | exact HB.out | apply below_alloc | apply pw_below_drewN | apply below_drew1) | exact HB.out)); (case side2 => exact Kd.R_tight rfl HO_9.out); rintro e w53 ⟨rfl, hy0, hb, hkp⟩; refine ⟨_, rfl, ?_⟩; have n0_ := Aside0.mk (Kd.R_reok rfl hy0 (fun k_ e_ => HO_9.out.1 k_ e_)); have n1_ := Aside0.mk (hb); clear HO_9; clear HB; have HO_9 := n0_; have HB := n1_; clear n0_ n1_; (try clear hb); (try clear hkp); (try clear hy0)) | (go_at_call 12; (with_reducible refine (utf_Check.calls kj10 a0 t201 _ A32.out).mono ?_); rintro e w54 ⟨rfl, hb⟩; have n0_ := Aside0.mk (Kd.R_below (by (with_reducible repeat (first | apply Kd.R_alloc | apply Kd.R_drewN | apply Kd.R_drew)); exact HO_9.out) hb); have n1_ := Aside0.mk (below_step (by repeat (first | (with_reducible first | exact HB.out | apply below_alloc | apply pw_below_drewN | apply below_drew1) | exact HB.out)) hb); clear HO_9; clear HB; have HO_9 := n0_; have HB := n1_; clear n0_ n1_; (try clear hb); (try clear hb2); (try clear hk); (try clear hi)) | (go_at_call 20; (with_reducible refine (gongref04_Check.calls kj10 a0 t202 _ A33.out).mono ?_); rintro e w55 ⟨rfl, hb⟩; have n0_ := Aside0.mk (Kd.R_below (by (with_reducible repeat (first | apply Kd.R_alloc | apply Kd.R_drewN | apply Kd.R_drew)); exact HO_9.out) hb); have n1_ := Aside0.mk (below_step (by repeat (first | (with_reducible first | exact HB.out | apply below_alloc | apply pw_below_drewN | apply below_drew1) | exact HB.out)) hb); clear HO_9; clear HB; have HO_9 := n0_; have HB := n1_; clear n0_ n1_; (try clear hb); (try clear hb2); (try clear hk); (try clear hi)))
            go_ret
            exact ⟨by first | rfl | (simp [errW_none, errW_some] <;> rfl) | (simp [*, errW_none, errW_some] <;> rfl), by repeat (first | (with_reducible first | exact HB.out | apply below_alloc | apply pw_below_drewN | apply below_drew1) | exact HB.out)⟩
        · replace c31 := Bool.eq_false_iff.mpr c31
          subst c31
          have H1 : (some false) = some r := by rw [if_neg (show ¬ (false = true) by decide)] at H; exact H
          clear H
          have H := H1
          clear H1
          obtain rfl := Option.some.inj H
          obtain ⟨Ao56, co56, eo56⟩ := Kd.R_slice HO_9.out
          subst eo56
          go_wp2_with (first | ((with_reducible refine gate_callee (f := 19) rfl ?_); refine goesL_ (some 88) rfl rfl Try.func19 (by kernel_rfl) rfl #[.slice Ao56 t187.length co56] rfl (by (try simp only [List.map_toArray, List.map_cons, List.map_nil]); first | done | rfl | (simp only [List.length_drop, List.length_take]; rfl)) ?_; (with_reducible refine (gongbook_SpoilInts.calls kj10 (fun k_ => some k_ = (.slice Ao56 t187.length co56 : Value).ownBlock) (.slice Ao56 t187.length co56) t187 t200 w _ ?side1 ?side2 A30.out).mono ?_); (case side1 => repeat (first | (with_reducible first | exact HB.out | apply below_alloc | apply pw_below_drewN | apply below_drew1) | exact HB.out)); (case side2 => exact Kd.R_tight rfl HO_9.out); rintro e w57 ⟨rfl, hy0, hb, hkp⟩; refine ⟨_, rfl, ?_⟩; have n0_ := Aside0.mk (Kd.R_reok rfl hy0 (fun k_ e_ => HO_9.out.1 k_ e_)); have n1_ := Aside0.mk (hb); clear HO_9; clear HB; have HO_9 := n0_; have HB := n1_; clear n0_ n1_; (try clear hb); (try clear hkp); (try clear hy0)))
          go_ret
          exact ⟨by first | rfl | (simp [errW_none, errW_some] <;> rfl) | (simp [*, errW_none, errW_some] <;> rfl), by repeat (first | (with_reducible first | exact HB.out | apply below_alloc | apply pw_below_drewN | apply below_drew1) | exact HB.out)⟩

/-- THE ONE PURE STATEMENT of gonglaw04_UtfReads: yours. -/
def gonglaw04_UtfReads.Pure : Prop := ∀ (a0 : ByteArray), a0.size ≤ 140737488351232 → ∃ k, gonglaw04_UtfReads.f k a0 = some true
theorem gonglaw04_UtfReads.walk (P : gonglaw04_UtfReads.Pure) (a0 : ByteArray) (w : World) (w0 : a0.size ≤ 140737488351232) :
    Calls Try.prog 4 #[.string a0] w fun e w' => e = .returned (.bool true) ∧ Below w.heap.size w w' := by
  obtain ⟨k, h⟩ := P a0 w0
  refine (gonglaw04_UtfReads.calls k a0 true w h).mono ?_
  rintro e w' ⟨rfl, hd⟩
  exact ⟨rfl, hd⟩

/-! ### gongref04_Bytes: function 23 -/
def gongref04_Bytes.f (a0 : Int) : Option (ByteArray × Int) := (gongref04_Is.f a0).bind fun t206 => (if t206 = true then ((gongref04_Made.f a0).bind fun t207 => (some (t207, 0))) else (some ((⟨#[]⟩ : ByteArray), 1)))
set_option maxHeartbeats 8000000 in
set_option maxRecDepth 100000 in
theorem gongref04_Bytes.calls (a0 : Int) (r1 : ByteArray) (r2 : Int) (w : World) (h : gongref04_Bytes.f a0 = some (r1, r2)) :
    Calls Try.prog 23 #[.int .i64 a0] w fun e w' => e = .returned (.tuple #[.string r1, .int .i64 r2]) ∧ Below w.heap.size w w' := by
  have HB := Aside0.mk (Below.refl w.heap.size w)
  have H : ((gongref04_Is.f a0).bind fun t206 => (if t206 = true then ((gongref04_Made.f a0).bind fun t207 => (some (t207, 0))) else (some ((⟨#[]⟩ : ByteArray), 1)))) = some (r1, r2) := h
  clear h
  replace H := Option.bind_eq_some_iff.mp H
  obtain ⟨t206, A20, H⟩ := H
  replace H : (if t206 = true then ((gongref04_Made.f a0).bind fun t207 => (some (t207, 0))) else (some ((⟨#[]⟩ : ByteArray), 1))) = some (r1, r2) := H
  have A2 := Aside0.mk A20
  clear A20
  by_cases c3 : t206 = true
  · subst c3
    have H1 : ((gongref04_Made.f a0).bind fun t207 => (some (t207, 0))) = some (r1, r2) := by rw [if_pos rfl] at H; exact H
    clear H
    have H := H1
    clear H1
    replace H := Option.bind_eq_some_iff.mp H
    obtain ⟨t207, A40, H⟩ := H
    replace H : (some (t207, 0)) = some (r1, r2) := H
    have A4 := Aside0.mk A40
    clear A40
    simp only [Option.some.injEq, Prod.mk.injEq] at H
    obtain ⟨rfl, rfl⟩ := H
    go_enter Try.func23, Try.ntmps23
    go_wp2_with (first | ((with_reducible refine gate_callee (f := 33) rfl ?_); refine goesL_ (some 5) rfl rfl Try.func33 (by kernel_rfl) rfl #[.int .i64 a0] rfl (by (try simp only [List.map_toArray, List.map_cons, List.map_nil]); first | done | rfl | (simp only [List.length_drop, List.length_take]; rfl)) ?_; (with_reducible refine (gongref04_Is.calls a0 true _ A2.out).mono ?_); rintro e w' ⟨rfl, ⟨nd, rfl⟩⟩; refine ⟨_, rfl, ?_⟩) | ((with_reducible refine gate_callee (f := 34) rfl ?_); refine goesL_ (some 8) rfl rfl Try.func34 (by kernel_rfl) rfl #[.int .i64 a0] rfl (by (try simp only [List.map_toArray, List.map_cons, List.map_nil]); first | done | rfl | (simp only [List.length_drop, List.length_take]; rfl)) ?_; (with_reducible refine (gongref04_Made.calls a0 t207 _ A4.out).mono ?_); rintro e w5 ⟨rfl, hb⟩; refine ⟨_, rfl, ?_⟩; have n0_ := Aside0.mk (below_step (by repeat (first | (with_reducible first | exact HB.out | apply below_alloc | apply pw_below_drewN | apply below_drew1) | exact HB.out)) hb); clear HB; have HB := n0_; clear n0_; (try clear hb); (try clear hb2); (try clear hk); (try clear hi)))
    go_ret2
    exact ⟨by first | rfl | (simp [errW_none, errW_some] <;> rfl) | (simp [*, errW_none, errW_some] <;> rfl), by repeat (first | (with_reducible first | exact HB.out | apply below_alloc | apply pw_below_drewN | apply below_drew1) | exact HB.out)⟩
  · replace c3 := Bool.eq_false_iff.mpr c3
    subst c3
    have H1 : (some ((⟨#[]⟩ : ByteArray), 1)) = some (r1, r2) := by rw [if_neg (show ¬ (false = true) by decide)] at H; exact H
    clear H
    have H := H1
    clear H1
    simp only [Option.some.injEq, Prod.mk.injEq] at H
    obtain ⟨rfl, rfl⟩ := H
    go_enter Try.func23, Try.ntmps23
    go_wp2_with (first | ((with_reducible refine gate_callee (f := 33) rfl ?_); refine goesL_ (some 5) rfl rfl Try.func33 (by kernel_rfl) rfl #[.int .i64 a0] rfl (by (try simp only [List.map_toArray, List.map_cons, List.map_nil]); first | done | rfl | (simp only [List.length_drop, List.length_take]; rfl)) ?_; (with_reducible refine (gongref04_Is.calls a0 false _ A2.out).mono ?_); rintro e w' ⟨rfl, ⟨nd, rfl⟩⟩; refine ⟨_, rfl, ?_⟩))
    go_ret2
    exact ⟨by first | rfl | (simp [errW_none, errW_some] <;> rfl) | (simp [*, errW_none, errW_some] <;> rfl), by repeat (first | (with_reducible first | exact HB.out | apply below_alloc | apply pw_below_drewN | apply below_drew1) | exact HB.out)⟩

/-! ### utf_Cut: function 24 -/
def utf_Cut.l0 : Nat → ByteArray → Int → Option (ByteArray × Int)
  | 0, _, _ => none
  | k + 1, x0, x7 => if x7 > 0 then (if x7 < (x0.size : Int) then (if 0 ≤ x7 then (if ((bt x0 x7) / 64) = 2 then (utf_Cut.l0 k x0 (wrap64 (x7 - 1))) else (if x7 ≤ (x0.size : Int) then (some (x0.extract 0 (x7 : Int).toNat, 0)) else (none))) else (none)) else (if 0 ≤ x7 then (if x7 ≤ (x0.size : Int) then (some (x0.extract 0 (x7 : Int).toNat, 0)) else (none)) else (none))) else (if 0 ≤ x7 then (if x7 ≤ (x0.size : Int) then (some (x0.extract 0 (x7 : Int).toNat, 0)) else (none)) else (none))
def utf_Cut.f (k : Nat) (a0 : ByteArray) (a1 : Int) : Option (ByteArray × Int) := if a1 < 0 then (some ((⟨#[]⟩ : ByteArray), 1)) else ((utf_Check.f k a0).bind fun t208 => (if t208 = 0 then (utf_Cut.l0 k a0 (mn a1 (a0.size : Int))) else (some ((⟨#[]⟩ : ByteArray), t208))))
theorem utf_Cut.mono_l : ∀ k, (∀ y0 y1, LeO (utf_Cut.l0 k y0 y1) (utf_Cut.l0 (k + 1) y0 y1))
  | 0 => fun _ _ r h => by simp [utf_Cut.l0] at h
  | k + 1 => by
    have ih0 := utf_Cut.mono_l k
    · intro y0 y1
      unfold utf_Cut.l0
      repeat' first
      | (with_reducible exact ih0 _ _)
      | (with_reducible exact utf_Check.mono _ _)
      | (with_reducible exact LeO.refl _)
      | (with_reducible exact LeO.none _)
      | (with_reducible refine LeO.ite ?_ ?_)
      | (with_reducible refine LeO.bind ?_ (fun _ => ?_))
      | exact ih0 _ _
      | exact utf_Check.mono _ _
      | exact LeO.none _
      | refine LeO.ite ?_ ?_
      | refine LeO.bind ?_ (fun _ => ?_)
theorem utf_Cut.mono : ∀ a0 a1 k, LeO (utf_Cut.f k a0 a1) (utf_Cut.f (k + 1) a0 a1) := by
  intro a0 a1 k
  have ih0 := utf_Cut.mono_l k
  unfold utf_Cut.f
  repeat' first
      | (with_reducible exact ih0 _ _)
      | (with_reducible exact utf_Check.mono _ _)
      | (with_reducible exact LeO.refl _)
      | (with_reducible exact LeO.none _)
      | (with_reducible refine LeO.ite ?_ ?_)
      | (with_reducible refine LeO.bind ?_ (fun _ => ?_))
      | exact ih0 _ _
      | exact utf_Check.mono _ _
      | exact LeO.none _
      | refine LeO.ite ?_ ?_
      | refine LeO.bind ?_ (fun _ => ?_)
set_option maxHeartbeats 8000000 in
set_option maxRecDepth 100000 in
theorem utf_Cut.calls (k : Nat) (a0 : ByteArray) (a1 : Int) (r1 : ByteArray) (r2 : Int) (w : World) (h : utf_Cut.f k a0 a1 = some (r1, r2)) :
    Calls Try.prog 24 #[.string a0, .int .i64 a1] w fun e w' => e = .returned (.tuple #[.string r1, .int .i64 r2]) ∧ Below w.heap.size w w' := by
  have HB := Aside0.mk (Below.refl w.heap.size w)
  have H : (if a1 < 0 then (some ((⟨#[]⟩ : ByteArray), 1)) else ((utf_Check.f k a0).bind fun t208 => (if t208 = 0 then (utf_Cut.l0 k a0 (mn a1 (a0.size : Int))) else (some ((⟨#[]⟩ : ByteArray), t208))))) = some (r1, r2) := h
  clear h
  by_cases c3 : a1 < 0
  · rw [if_pos c3] at H
    have c3b0 : decide (a1 < 0) = true := decide_eq_true c3
    clear c3
    simp only [Option.some.injEq, Prod.mk.injEq] at H
    obtain ⟨rfl, rfl⟩ := H
    go_enter Try.func24, Try.ntmps24
    go_wp2
    go_ret2
    exact ⟨by first | rfl | (simp [errW_none, errW_some] <;> rfl) | (simp [*, errW_none, errW_some] <;> rfl), by repeat (first | (with_reducible first | exact HB.out | apply below_alloc | apply pw_below_drewN | apply below_drew1) | exact HB.out)⟩
  · rw [if_neg c3] at H
    have c3b0 : decide (a1 < 0) = false := decide_eq_false c3
    clear c3
    replace H := Option.bind_eq_some_iff.mp H
    obtain ⟨t208, A40, H⟩ := H
    replace H : (if t208 = 0 then (utf_Cut.l0 k a0 (mn a1 (a0.size : Int))) else (some ((⟨#[]⟩ : ByteArray), t208))) = some (r1, r2) := H
    have A4 := Aside0.mk A40
    clear A40
    by_cases c5 : t208 = 0
    · rw [if_pos c5] at H
      have c5b0 : (t208 == 0) = true := beq_iff_eq.mpr c5
      have c5b1 : (t208 != 0) = false := bne_eq_false_iff_eq.mpr c5
      clear c5
      obtain ⟨ji6, hji6⟩ : ∃ j_ : Int, (mn a1 (a0.size : Int)) = j_ := ⟨_, rfl⟩
      replace H : (utf_Cut.l0 k a0 ji6) = some (r1, r2) := by first | (rw [hji6] at H; exact H) | (simp only [hji6] at H ⊢; exact H)
      (try rw [hji6] at A4)
      have hji6_ : (if (a0.size : Int) < a1 then (a0.size : Int) else a1) = ji6 := hji6
      have H' := Aside0.mk H
      clear H
      go_enter Try.func24, Try.ntmps24
      go_wp2_with (first | ((with_reducible refine gate_callee (f := 12) rfl ?_); refine goesL_ (some 11) rfl rfl Try.func12 (by kernel_rfl) rfl #[.string a0] rfl (by (try simp only [List.map_toArray, List.map_cons, List.map_nil]); first | done | rfl | (simp only [List.length_drop, List.length_take]; rfl)) ?_; (with_reducible refine (utf_Check.calls k a0 t208 _ A4.out).mono ?_); rintro e w7 ⟨rfl, hb⟩; refine ⟨_, rfl, ?_⟩; have n0_ := Aside0.mk (below_step (by repeat (first | (with_reducible first | exact HB.out | apply below_alloc | apply pw_below_drewN | apply below_drew1) | exact HB.out)) hb); clear HB; have HB := n0_; clear n0_; (try clear hb); (try clear hb2); (try clear hk); (try clear hi)))
      go_loopg [7] k (fun kq v7 w' => ∃ (x7_1 : Int), v7 = .int .i64 x7_1 ∧ Aside0 (utf_Cut.l0 kq a0 x7_1 = some (r1, r2)) ∧ Aside0 (kq ≤ k) ∧ Aside0 (Below w.heap.size w w'))
      case atStart => exact ⟨(ji6), (by first | rfl | (simp; done) | (simp only [← hji6] <;> (first | rfl | simp)) | (simp [*]; done)), H', ⟨Nat.le_refl _⟩, ⟨by repeat (first | (with_reducible first | exact HB.out | apply below_alloc | apply pw_below_drewN | apply below_drew1) | exact HB.out)⟩⟩
      case round =>
        clear H'
        try clear c1
        try clear c2
        try clear p2
        try clear c3
        try clear c3b0
        try clear c5
        try clear c5b0
        try clear c5b1
        obtain ⟨x7_1, rfl, HA, HK1, HB⟩ := hrel
        cases gk with
        | zero => exact absurd HA.out (by simp [utf_Cut.l0])
        | succ k1 =>
          have H := HA.out
          clear HA
          simp only [utf_Cut.l0] at H
          by_cases c8 : x7_1 > 0
          · rw [if_pos c8] at H
            have c8b0 : decide (0 < x7_1) = true := decide_eq_true c8
            clear c8
            by_cases c9 : x7_1 < (a0.size : Int)
            · rw [if_pos c9] at H
              have c9b0 : decide (x7_1 < (a0.size : Int)) = true := decide_eq_true c9
              clear c9
              by_cases c10 : 0 ≤ x7_1
              · rw [if_pos c10] at H
                have c10b0 : decide (0 ≤ x7_1) = true := decide_eq_true c10
                clear c10
                by_cases c12 : ((bt a0 x7_1) / 64) = 2
                · rw [if_pos c12] at H
                  have c12b0 : (((bt a0 x7_1) / 64) == 2) = true := beq_iff_eq.mpr c12
                  have c12b1 : (((bt a0 x7_1) / 64) != 2) = false := bne_eq_false_iff_eq.mpr c12
                  clear c12
                  have H' := Aside0.mk H
                  clear H
                  have p11 : 0 ≤ (x7_1 : Int) := of_decide_eq_true (by first | (with_reducible assumption) | assumption)
                  have q11 : x7_1 < (a0.size : Int) := of_decide_eq_true (by first | (with_reducible assumption) | assumption)
                  have hx11 := bt_at a0 x7_1
                  replace p11 := eq_true p11
                  replace q11 := eq_true q11
                  go_wp2
                  go_roundg k1
                  case measure => have := HK1.out; omega
                  case rel => exact ⟨(wrap64 (x7_1 - 1)), (by first | rfl | (simp; done) | (simp [*]; done)), H', ⟨by have := HK1.out; omega⟩, ⟨by repeat (first | (with_reducible first | exact HB.out | apply below_alloc | apply pw_below_drewN | apply below_drew1) | exact HB.out)⟩⟩
                · rw [if_neg c12] at H
                  have c12b0 : (((bt a0 x7_1) / 64) == 2) = false := beq_eq_false_iff_ne.mpr c12
                  have c12b1 : (((bt a0 x7_1) / 64) != 2) = true := bne_iff_ne.mpr c12
                  have c13b0 := eq_true (of_decide_eq_true (by first | (with_reducible assumption) | assumption) : 0 ≤ x7_1)
                  by_cases c14 : x7_1 ≤ (a0.size : Int)
                  · rw [if_pos c14] at H
                    have c14b0 := eq_true c14
                    have c14b1 : decide (x7_1 ≤ (a0.size : Int)) = true := decide_eq_true c14
                    clear c14
                    simp only [Option.some.injEq, Prod.mk.injEq] at H
                    obtain ⟨rfl, rfl⟩ := H
                    have p11 : 0 ≤ (x7_1 : Int) := of_decide_eq_true (by first | (with_reducible assumption) | assumption)
                    have q11 : x7_1 < (a0.size : Int) := of_decide_eq_true (by first | (with_reducible assumption) | assumption)
                    have hx11 := bt_at a0 x7_1
                    replace p11 := eq_true p11
                    replace q11 := eq_true q11
                    go_wp2
                    go_ret2
                    exact ⟨by first | rfl | (simp [errW_none, errW_some] <;> rfl) | (simp only [← hji6]; first | rfl | (simp [errW_none, errW_some] <;> rfl)) | (simp [*, errW_none, errW_some] <;> rfl), by repeat (first | (with_reducible first | exact HB.out | apply below_alloc | apply pw_below_drewN | apply below_drew1) | exact HB.out)⟩
                  · rw [if_neg c14] at H
                    exact absurd H (by simp)
              · rw [if_neg c10] at H
                exact absurd H (by simp)
            · rw [if_neg c9] at H
              have c9b0 : decide (x7_1 < (a0.size : Int)) = false := decide_eq_false c9
              clear c9
              by_cases c15 : 0 ≤ x7_1
              · rw [if_pos c15] at H
                have c15b0 := eq_true c15
                have c15b1 : decide (0 ≤ x7_1) = true := decide_eq_true c15
                clear c15
                by_cases c16 : x7_1 ≤ (a0.size : Int)
                · rw [if_pos c16] at H
                  have c16b0 := eq_true c16
                  have c16b1 : decide (x7_1 ≤ (a0.size : Int)) = true := decide_eq_true c16
                  clear c16
                  simp only [Option.some.injEq, Prod.mk.injEq] at H
                  obtain ⟨rfl, rfl⟩ := H
                  go_wp2
                  go_ret2
                  exact ⟨by first | rfl | (simp [errW_none, errW_some] <;> rfl) | (simp only [← hji6]; first | rfl | (simp [errW_none, errW_some] <;> rfl)) | (simp [*, errW_none, errW_some] <;> rfl), by repeat (first | (with_reducible first | exact HB.out | apply below_alloc | apply pw_below_drewN | apply below_drew1) | exact HB.out)⟩
                · rw [if_neg c16] at H
                  exact absurd H (by simp)
              · rw [if_neg c15] at H
                exact absurd H (by simp)
          · rw [if_neg c8] at H
            have c8b0 : decide (0 < x7_1) = false := decide_eq_false c8
            clear c8
            by_cases c17 : 0 ≤ x7_1
            · rw [if_pos c17] at H
              have c17b0 := eq_true c17
              have c17b1 : decide (0 ≤ x7_1) = true := decide_eq_true c17
              clear c17
              by_cases c18 : x7_1 ≤ (a0.size : Int)
              · rw [if_pos c18] at H
                have c18b0 := eq_true c18
                have c18b1 : decide (x7_1 ≤ (a0.size : Int)) = true := decide_eq_true c18
                clear c18
                simp only [Option.some.injEq, Prod.mk.injEq] at H
                obtain ⟨rfl, rfl⟩ := H
                go_wp2
                go_ret2
                exact ⟨by first | rfl | (simp [errW_none, errW_some] <;> rfl) | (simp only [← hji6]; first | rfl | (simp [errW_none, errW_some] <;> rfl)) | (simp [*, errW_none, errW_some] <;> rfl), by repeat (first | (with_reducible first | exact HB.out | apply below_alloc | apply pw_below_drewN | apply below_drew1) | exact HB.out)⟩
              · rw [if_neg c18] at H
                exact absurd H (by simp)
            · rw [if_neg c17] at H
              exact absurd H (by simp)
    · rw [if_neg c5] at H
      have c5b0 : (t208 == 0) = false := beq_eq_false_iff_ne.mpr c5
      have c5b1 : (t208 != 0) = true := bne_iff_ne.mpr c5
      simp only [Option.some.injEq, Prod.mk.injEq] at H
      obtain ⟨rfl, rfl⟩ := H
      go_enter Try.func24, Try.ntmps24
      go_wp2_with (first | ((with_reducible refine gate_callee (f := 12) rfl ?_); refine goesL_ (some 11) rfl rfl Try.func12 (by kernel_rfl) rfl #[.string a0] rfl (by (try simp only [List.map_toArray, List.map_cons, List.map_nil]); first | done | rfl | (simp only [List.length_drop, List.length_take]; rfl)) ?_; (with_reducible refine (utf_Check.calls k a0 t208 _ A4.out).mono ?_); rintro e w19 ⟨rfl, hb⟩; refine ⟨_, rfl, ?_⟩; have n0_ := Aside0.mk (below_step (by repeat (first | (with_reducible first | exact HB.out | apply below_alloc | apply pw_below_drewN | apply below_drew1) | exact HB.out)) hb); clear HB; have HB := n0_; clear n0_; (try clear hb); (try clear hb2); (try clear hk); (try clear hi)))
      go_ret2
      exact ⟨by first | rfl | (simp [errW_none, errW_some] <;> rfl) | (simp [*, errW_none, errW_some] <;> rfl), by repeat (first | (with_reducible first | exact HB.out | apply below_alloc | apply pw_below_drewN | apply below_drew1) | exact HB.out)⟩

end Go.Proofs.Ythhpoogocpdbjaa.Px
