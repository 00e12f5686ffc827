import Derived.Test.YtgopphglkjdcaaaPx0
import Derived.Test.YtgopphglkjdcaaaPx23
import Derived.Test.YtgopphglkjdcaaaPx17
import Derived.Test.YtgopphglkjdcaaaPx25
import Derived.Test.YtgopphglkjdcaaaPx10
import Derived.Test.YtgopphglkjdcaaaPx27
import Derived.Test.YtgopphglkjdcaaaPx26
import Derived.Test.YtgopphglkjdcaaaPx32
import Derived.Test.YtgopphglkjdcaaaPx5
import Derived.Test.YtgopphglkjdcaaaPx22
import Derived.Deep.RegionWith
import Derived.Test.YtgopphglkjdcaaaPx6
import Derived.Test.YtgopphglkjdcaaaStr
import Derived.Test.YtgopphglkjdcaaaPx7
import Derived.Test.YtgopphglkjdcaaaPx2
import Derived.Test.YtgopphglkjdcaaaIdx
import Derived.Test.YtgopphglkjdcaaaPx3
import Derived.Test.YtgopphglkjdcaaaPx4
import Derived.Test.YtgopphglkjdcaaaPx14
import Derived.Test.YtgopphglkjdcaaaPx15
import Derived.Test.YtgopphglkjdcaaaPx13
import Derived.Test.YtgopphglkjdcaaaPx12
import Derived.Test.YtgopphglkjdcaaaOct
import Derived.Test.YtgopphglkjdcaaaPx8
import Derived.Test.YtgopphglkjdcaaaPx9
import Derived.Test.YtgopphglkjdcaaaPx18
import Derived.Test.YtgopphglkjdcaaaPx11
import Derived.Test.YtgopphglkjdcaaaPx16
import Derived.DataReads
import Derived.DataElems
import Derived.SizedLaws
import Derived.Lib.LaidTab
import Derived.ChangeShapes
import Derived.ChangeMaps
import Derived.Test.YtgopphglkjdcaaaWWords
import Derived.Test.YtgopphglkjdcaaaRows
import Derived.WalkKit
import Derived.ProofKit
import Derived.OpenShut
import Derived.ShutString
import Derived.ChangeOld
import Derived.Below
set_option linter.unusedVariables false
set_option linter.unusedSimpArgs false
/-! Px30 -/
section
-- Laid by wip/hprint.py: the kit's print of the translation, turned in places, beside contracts that this session wrote by hand; Lean checks all of it.
namespace Go.Proofs.Ytgopphglkjdcaaa.Px
open Go.RowKit Go.Proofs.YtgopphglkjdcaaaW.PrintWords Go.Proofs.YtgopphglkjdcaaaW.PrintLast Go.Proofs.YtgopphglkjdcaaaW.PrintMore
attribute [local go_sem] max2_int min2_int max_two min_two max_three min_three max_four min_four   -- for this text's walks alone
set_option linter.unusedVariables false
set_option linter.unusedSimpArgs false

/-! ### gongref10_Put: function 47 -/
mutual
def gongref10_Put.l0 : Nat → List (S35) → ByteArray → Int → Option (ByteArray)
  | 0, _, _, _ => none
  | k + 1, x0, x3, x4 => if x4 < (x0.length : Int) then (if 0 ≤ x4 then (if 1 + ((rd_T35 x0 x4).f0).size ≤ 9223372036854775807 then (if x3.size + ((⟨#[91]⟩ : ByteArray) ++ ((rd_T35 x0 x4).f0)).size ≤ 9223372036854775807 then (gongref10_Put.l1 k x0 (x3 ++ ((⟨#[91]⟩ : ByteArray) ++ ((rd_T35 x0 x4).f0))) x4 0) else (none)) else (none)) else (none)) else (some x3)
def gongref10_Put.l1 : Nat → List (S35) → ByteArray → Int → Int → Option (ByteArray)
  | 0, _, _, _, _ => none
  | k + 1, x0, x3, x4, x5 => if 0 ≤ x4 then (if x4 < (x0.length : Int) then (if x5 < (((rd_T35 x0 x4).f1).length : Int) then (if 0 ≤ x5 then (if 1 + ((rd_T37 ((rd_T35 x0 x4).f1) x5).f0).size ≤ 9223372036854775807 then (if ((⟨#[32]⟩ : ByteArray) ++ ((rd_T37 ((rd_T35 x0 x4).f1) x5).f0)).size + 2 ≤ 9223372036854775807 then ((gongref10_Escape.f k ((rd_T37 ((rd_T35 x0 x4).f1) x5).f1)).bind fun t299 => (if (((⟨#[32]⟩ : ByteArray) ++ ((rd_T37 ((rd_T35 x0 x4).f1) x5).f0)) ++ (⟨#[61, 34]⟩ : ByteArray)).size + t299.size ≤ 9223372036854775807 then (if ((((⟨#[32]⟩ : ByteArray) ++ ((rd_T37 ((rd_T35 x0 x4).f1) x5).f0)) ++ (⟨#[61, 34]⟩ : ByteArray)) ++ t299).size + 1 ≤ 9223372036854775807 then (if x3.size + (((((⟨#[32]⟩ : ByteArray) ++ ((rd_T37 ((rd_T35 x0 x4).f1) x5).f0)) ++ (⟨#[61, 34]⟩ : ByteArray)) ++ t299) ++ (⟨#[34]⟩ : ByteArray)).size ≤ 9223372036854775807 then (gongref10_Put.l1 k x0 (x3 ++ (((((⟨#[32]⟩ : ByteArray) ++ ((rd_T37 ((rd_T35 x0 x4).f1) x5).f0)) ++ (⟨#[61, 34]⟩ : ByteArray)) ++ t299) ++ (⟨#[34]⟩ : ByteArray))) x4 (wrap64 (x5 + 1))) else (none)) else (none)) else (none))) else (none)) else (none)) else (none)) else (if x3.size + 1 ≤ 9223372036854775807 then (gongref10_Put.l0 k x0 (x3 ++ (⟨#[93]⟩ : ByteArray)) (wrap64 (x4 + 1))) else (none))) else (none)) else (none)
end
def gongref10_Put.f (k : Nat) (l0 : List (S35)) : Option (ByteArray) := if (l0.length : Int) = 0 then (some (⟨#[45]⟩ : ByteArray)) else (gongref10_Put.l0 k l0 (⟨#[]⟩ : ByteArray) 0)
theorem gongref10_Put.mono_l : ∀ k, (∀ y0 y1 y2, LeO (gongref10_Put.l0 k y0 y1 y2) (gongref10_Put.l0 (k + 1) y0 y1 y2)) ∧ (∀ y0 y1 y2 y3, LeO (gongref10_Put.l1 k y0 y1 y2 y3) (gongref10_Put.l1 (k + 1) y0 y1 y2 y3))
  | 0 => ⟨fun _ _ _ r h => by simp [gongref10_Put.l0] at h, fun _ _ _ _ r h => by simp [gongref10_Put.l1] at h⟩
  | k + 1 => by
    obtain ⟨ih0, ih1⟩ := gongref10_Put.mono_l k
    refine ⟨?_, ?_⟩
    · intro y0 y1 y2
      unfold gongref10_Put.l0
      repeat' first
      | (with_reducible exact ih0 _ _ _)
      | (with_reducible exact ih1 _ _ _ _)
      | (with_reducible exact gongref10_Escape.mono _ _)
      | (with_reducible exact LeO.refl _)
      | (with_reducible exact LeO.none _)
      | (with_reducible refine LeO.ite ?_ ?_)
      | (with_reducible refine LeO.bind ?_ (fun _ => ?_))
      | exact ih0 _ _ _
      | exact ih1 _ _ _ _
      | exact gongref10_Escape.mono _ _
      | exact LeO.none _
      | refine LeO.ite ?_ ?_
      | refine LeO.bind ?_ (fun _ => ?_)
    · intro y0 y1 y2 y3
      unfold gongref10_Put.l1
      repeat' first
      | (with_reducible exact ih0 _ _ _)
      | (with_reducible exact ih1 _ _ _ _)
      | (with_reducible exact gongref10_Escape.mono _ _)
      | (with_reducible exact LeO.refl _)
      | (with_reducible exact LeO.none _)
      | (with_reducible refine LeO.ite ?_ ?_)
      | (with_reducible refine LeO.bind ?_ (fun _ => ?_))
      | exact ih0 _ _ _
      | exact ih1 _ _ _ _
      | exact gongref10_Escape.mono _ _
      | exact LeO.none _
      | refine LeO.ite ?_ ?_
      | refine LeO.bind ?_ (fun _ => ?_)
theorem gongref10_Put.mono : ∀ a0 k, LeO (gongref10_Put.f k a0) (gongref10_Put.f (k + 1) a0) := by
  intro a0 k
  obtain ⟨ih0, ih1⟩ := gongref10_Put.mono_l k
  unfold gongref10_Put.f
  repeat' first
      | (with_reducible exact ih0 _ _ _)
      | (with_reducible exact ih1 _ _ _ _)
      | (with_reducible exact gongref10_Escape.mono _ _)
      | (with_reducible exact LeO.refl _)
      | (with_reducible exact LeO.none _)
      | (with_reducible refine LeO.ite ?_ ?_)
      | (with_reducible refine LeO.bind ?_ (fun _ => ?_))
      | exact ih0 _ _ _
      | exact ih1 _ _ _ _
      | exact gongref10_Escape.mono _ _
      | exact LeO.none _
      | refine LeO.ite ?_ ?_
      | refine LeO.bind ?_ (fun _ => ?_)
set_option maxHeartbeats 8000000 in
set_option maxRecDepth 100000 in
theorem gongref10_Put.calls (k : Nat) (A0 : Option Addr) (c0 : Nat) (l0 : List (S35)) (r : ByteArray) (w : World) (hr0 : Kd.C k35 w A0 l0.length l0) (hc0 : l0.length ≤ c0) (h : gongref10_Put.f k l0 = some r) :
    Calls Try.prog 47 #[.slice A0 l0.length c0] w fun e w' => e = .returned (.string r) ∧ Drawn0 w w' := by
  have HR0 := Aside0.mk hr0
  have HC0 := Aside0.mk hc0
  clear hr0 hc0
  have H : (if (l0.length : Int) = 0 then (some (⟨#[45]⟩ : ByteArray)) else (gongref10_Put.l0 k l0 (⟨#[]⟩ : ByteArray) 0)) = some r := h
  clear h
  by_cases c2 : (l0.length : Int) = 0
  · rw [if_pos c2] at H
    have c2b0 : ((l0.length : Int) == 0) = true := beq_iff_eq.mpr c2
    have c2b1 : ((l0.length : Int) != 0) = false := bne_eq_false_iff_eq.mpr c2
    clear c2
    obtain rfl := Option.some.inj H
    go_enter Try.func47, Try.ntmps47
    go_wp2
    repeat (go_quiet (fail); try go_wp2)
    go_ret
    exact ⟨by first | rfl | (simp; done) | (simp [*]; done) | (simp [IntKind.wrap_u8, IntKind.wrap_i64, wrap64]; done) | (simp only [IntKind.wrap_u8]; rfl), by repeat (first | exact Drawn0.refl _ | apply Drawn0.step)⟩
  · rw [if_neg c2] at H
    have c2b0 : ((l0.length : Int) == 0) = false := beq_eq_false_iff_ne.mpr c2
    have c2b1 : ((l0.length : Int) != 0) = true := bne_iff_ne.mpr c2
    have c2b2 : ¬ (l0 = []) := fun h_ => c2 (by rw [h_]; rfl)
    have H' := Aside0.mk H
    clear H
    go_enter Try.func47, Try.ntmps47
    go_wp2
    repeat (go_quiet (fail); try go_wp2)
    go_loopg [3, 4] k (fun kq v3 v4 w' => ∃ (x3_1 : ByteArray) (x4_1 : Int), v3 = .string x3_1 ∧ v4 = .int .i64 x4_1 ∧ Aside0 (gongref10_Put.l0 kq l0 x3_1 x4_1 = some r) ∧ Aside0 (kq ≤ k) ∧ Drawn0 w w')
    case atStart => exact ⟨((⟨#[]⟩ : ByteArray)), (0), (by first | rfl | (simp; done) | (simp [*]; done)), (by first | rfl | (simp; done) | (simp [*]; done)), H', ⟨Nat.le_refl _⟩, by repeat (first | exact Drawn0.refl _ | apply Drawn0.step)⟩
    case round =>
      clear H'
      try clear c2
      try clear c2b0
      try clear c2b1
      try clear c2b2
      try clear p2
      obtain ⟨x3_1, x4_1, rfl, rfl, HA, HK1, ⟨m1, rfl⟩⟩ := hrel
      cases gk with
      | zero => exact absurd HA.out (by simp [gongref10_Put.l0])
      | succ k1 =>
        have H := HA.out
        clear HA
        simp only [gongref10_Put.l0] at H
        by_cases c3 : x4_1 < (l0.length : Int)
        · rw [if_pos c3] at H
          have c3b0 : decide (x4_1 < (l0.length : Int)) = true := decide_eq_true c3
          clear c3
          by_cases c4 : 0 ≤ x4_1
          · rw [if_pos c4] at H
            have c4b0 : decide (0 ≤ x4_1) = true := decide_eq_true c4
            clear c4
            by_cases c5 : 1 + ((rd_T35 l0 x4_1).f0).size ≤ 9223372036854775807
            · rw [if_pos c5] at H
              have c5b0 := eq_true c5
              have c5b1 : decide (1 + ((rd_T35 l0 x4_1).f0).size ≤ 9223372036854775807) = true := decide_eq_true c5
              try have c5b2 : (9223372036854775807 < 1 + ((rd_T35 l0 x4_1).f0).size) = False := eq_false (Nat.not_lt.2 c5)
              by_cases c6 : x3_1.size + ((⟨#[91]⟩ : ByteArray) ++ ((rd_T35 l0 x4_1).f0)).size ≤ 9223372036854775807
              · rw [if_pos c6] at H
                have c6b0 := eq_true c6
                have c6b1 : decide (x3_1.size + ((⟨#[91]⟩ : ByteArray) ++ ((rd_T35 l0 x4_1).f0)).size ≤ 9223372036854775807) = true := decide_eq_true c6
                try have c6b2 : (9223372036854775807 < x3_1.size + ((⟨#[91]⟩ : ByteArray) ++ ((rd_T35 l0 x4_1).f0)).size) = False := eq_false (Nat.not_lt.2 c6)
                try have c6s2 : (9223372036854775807 < x3_1.size + (1 + ((rd_T35 l0 x4_1).f0).size)) = False := eq_false (by have z_ := c6; simp only [ByteArray.size_append] at z_; have y0_ : (⟨#[91]⟩ : ByteArray).size = 1 := rfl; omega)
                have H' := Aside0.mk H
                clear H
                have p293 : 0 ≤ (x4_1 : Int) := of_decide_eq_true (by first | (with_reducible assumption) | assumption)
                have q293 : x4_1 < (l0.length : Int) := of_decide_eq_true (by first | (with_reducible assumption) | assumption)
                obtain ⟨ad293, A293_1, c293_1, e293, hx293_0, hx293_1, hl293_1, hi293_1⟩ := at_T35 HR0.out x4_1 p293 q293
                cases e293
                have HR293_1 := Aside0.mk hi293_1
                have HC293_1 := Aside0.mk hl293_1
                clear hi293_1 hl293_1
                replace p293 := eq_true p293
                replace q293 := eq_true q293
                go_wp2
                repeat (go_quiet (fail); try go_wp2)
                go_loopg [3, 5] k1 (fun kq v3 v5 w' => ∃ (x3_2 : ByteArray) (x5_2 : Int), v3 = .string x3_2 ∧ v5 = .int .i64 x5_2 ∧ Aside0 (gongref10_Put.l1 kq l0 x3_2 x4_1 x5_2 = some r) ∧ Aside0 (kq ≤ k1) ∧ Drawn0 w w')
                case atStart => exact ⟨(x3_1 ++ ((⟨#[91]⟩ : ByteArray) ++ ((rd_T35 l0 x4_1).f0))), (0), (by first | rfl | (simp; done) | (simp [*]; done)), (by first | rfl | (simp; done) | (simp [*]; done)), H', ⟨Nat.le_refl _⟩, by repeat (first | exact Drawn0.refl _ | apply Drawn0.step)⟩
                case round =>
                  clear H'
                  try clear c2
                  try clear c2b0
                  try clear c2b1
                  try clear c2b2
                  try clear p2
                  try clear q2
                  try clear hx2
                  try clear c3
                  try clear c3b0
                  try clear c4
                  try clear c4b0
                  try clear c5
                  try clear c5b0
                  try clear c5b1
                  try clear c5b2
                  try clear c6
                  try clear c6b0
                  try clear c6b1
                  try clear c6b2
                  try clear hx293_0
                  try clear hx293_1
                  try clear p2
                  try clear p293
                  try clear q293
                  obtain ⟨x3_2, x5_2, rfl, rfl, HA, HK2, ⟨m2, rfl⟩⟩ := hrel
                  cases gk with
                  | zero => exact absurd HA.out (by simp [gongref10_Put.l1])
                  | succ k2 =>
                    have H := HA.out
                    clear HA
                    simp only [gongref10_Put.l1] at H
                    by_cases c7 : 0 ≤ x4_1
                    · rw [if_pos c7] at H
                      have c7b0 : decide (0 ≤ x4_1) = true := decide_eq_true c7
                      clear c7
                      by_cases c8 : x4_1 < (l0.length : Int)
                      · rw [if_pos c8] at H
                        have c8b0 : decide (x4_1 < (l0.length : Int)) = true := decide_eq_true c8
                        clear c8
                        by_cases c9 : x5_2 < (((rd_T35 l0 x4_1).f1).length : Int)
                        · rw [if_pos c9] at H
                          have c9b0 : decide (x5_2 < (((rd_T35 l0 x4_1).f1).length : Int)) = true := decide_eq_true c9
                          clear c9
                          by_cases c10 : 0 ≤ x5_2
                          · rw [if_pos c10] at H
                            have c10b0 : decide (0 ≤ x5_2) = true := decide_eq_true c10
                            clear c10
                            by_cases c11 : 1 + ((rd_T37 ((rd_T35 l0 x4_1).f1) x5_2).f0).size ≤ 9223372036854775807
                            · rw [if_pos c11] at H
                              have c11b0 := eq_true c11
                              have c11b1 : decide (1 + ((rd_T37 ((rd_T35 l0 x4_1).f1) x5_2).f0).size ≤ 9223372036854775807) = true := decide_eq_true c11
                              try have c11b2 : (9223372036854775807 < 1 + ((rd_T37 ((rd_T35 l0 x4_1).f1) x5_2).f0).size) = False := eq_false (Nat.not_lt.2 c11)
                              by_cases c12 : ((⟨#[32]⟩ : ByteArray) ++ ((rd_T37 ((rd_T35 l0 x4_1).f1) x5_2).f0)).size + 2 ≤ 9223372036854775807
                              · rw [if_pos c12] at H
                                have c12b0 := eq_true c12
                                have c12b1 : decide (((⟨#[32]⟩ : ByteArray) ++ ((rd_T37 ((rd_T35 l0 x4_1).f1) x5_2).f0)).size + 2 ≤ 9223372036854775807) = true := decide_eq_true c12
                                try have c12b2 : (9223372036854775807 < ((⟨#[32]⟩ : ByteArray) ++ ((rd_T37 ((rd_T35 l0 x4_1).f1) x5_2).f0)).size + 2) = False := eq_false (Nat.not_lt.2 c12)
                                try have c12s2 : (9223372036854775807 < 1 + ((rd_T37 ((rd_T35 l0 x4_1).f1) x5_2).f0).size + 2) = False := eq_false (by have z_ := c12; simp only [ByteArray.size_append] at z_; have y0_ : (⟨#[32]⟩ : ByteArray).size = 1 := rfl; omega)
                                replace H := Option.bind_eq_some_iff.mp H
                                obtain ⟨t299, A130, H⟩ := H
                                replace H : (if (((⟨#[32]⟩ : ByteArray) ++ ((rd_T37 ((rd_T35 l0 x4_1).f1) x5_2).f0)) ++ (⟨#[61, 34]⟩ : ByteArray)).size + t299.size ≤ 9223372036854775807 then (if ((((⟨#[32]⟩ : ByteArray) ++ ((rd_T37 ((rd_T35 l0 x4_1).f1) x5_2).f0)) ++ (⟨#[61, 34]⟩ : ByteArray)) ++ t299).size + 1 ≤ 9223372036854775807 then (if x3_2.size + (((((⟨#[32]⟩ : ByteArray) ++ ((rd_T37 ((rd_T35 l0 x4_1).f1) x5_2).f0)) ++ (⟨#[61, 34]⟩ : ByteArray)) ++ t299) ++ (⟨#[34]⟩ : ByteArray)).size ≤ 9223372036854775807 then (gongref10_Put.l1 k2 l0 (x3_2 ++ (((((⟨#[32]⟩ : ByteArray) ++ ((rd_T37 ((rd_T35 l0 x4_1).f1) x5_2).f0)) ++ (⟨#[61, 34]⟩ : ByteArray)) ++ t299) ++ (⟨#[34]⟩ : ByteArray))) x4_1 (wrap64 (x5_2 + 1))) else (none)) else (none)) else (none)) = some r := H
                                have A13 := Aside0.mk A130
                                clear A130
                                by_cases c14 : (((⟨#[32]⟩ : ByteArray) ++ ((rd_T37 ((rd_T35 l0 x4_1).f1) x5_2).f0)) ++ (⟨#[61, 34]⟩ : ByteArray)).size + t299.size ≤ 9223372036854775807
                                · rw [if_pos c14] at H
                                  have c14b0 := eq_true c14
                                  have c14b1 : decide ((((⟨#[32]⟩ : ByteArray) ++ ((rd_T37 ((rd_T35 l0 x4_1).f1) x5_2).f0)) ++ (⟨#[61, 34]⟩ : ByteArray)).size + t299.size ≤ 9223372036854775807) = true := decide_eq_true c14
                                  try have c14b2 : (9223372036854775807 < (((⟨#[32]⟩ : ByteArray) ++ ((rd_T37 ((rd_T35 l0 x4_1).f1) x5_2).f0)) ++ (⟨#[61, 34]⟩ : ByteArray)).size + t299.size) = False := eq_false (Nat.not_lt.2 c14)
                                  try have c14s2 : (9223372036854775807 < 1 + ((rd_T37 ((rd_T35 l0 x4_1).f1) x5_2).f0).size + 2 + t299.size) = False := eq_false (by have z_ := c14; simp only [ByteArray.size_append] at z_; have y0_ : (⟨#[32]⟩ : ByteArray).size = 1 := rfl; have y1_ : (⟨#[61, 34]⟩ : ByteArray).size = 2 := rfl; omega)
                                  by_cases c15 : ((((⟨#[32]⟩ : ByteArray) ++ ((rd_T37 ((rd_T35 l0 x4_1).f1) x5_2).f0)) ++ (⟨#[61, 34]⟩ : ByteArray)) ++ t299).size + 1 ≤ 9223372036854775807
                                  · rw [if_pos c15] at H
                                    have c15b0 := eq_true c15
                                    have c15b1 : decide (((((⟨#[32]⟩ : ByteArray) ++ ((rd_T37 ((rd_T35 l0 x4_1).f1) x5_2).f0)) ++ (⟨#[61, 34]⟩ : ByteArray)) ++ t299).size + 1 ≤ 9223372036854775807) = true := decide_eq_true c15
                                    try have c15b2 : (9223372036854775807 < ((((⟨#[32]⟩ : ByteArray) ++ ((rd_T37 ((rd_T35 l0 x4_1).f1) x5_2).f0)) ++ (⟨#[61, 34]⟩ : ByteArray)) ++ t299).size + 1) = False := eq_false (Nat.not_lt.2 c15)
                                    try have c15s2 : (9223372036854775807 < 1 + ((rd_T37 ((rd_T35 l0 x4_1).f1) x5_2).f0).size + 2 + (t299).size + 1) = False := eq_false (by have z_ := c15; simp only [ByteArray.size_append] at z_; have y0_ : (⟨#[32]⟩ : ByteArray).size = 1 := rfl; have y1_ : (⟨#[61, 34]⟩ : ByteArray).size = 2 := rfl; omega)
                                    by_cases c16 : x3_2.size + (((((⟨#[32]⟩ : ByteArray) ++ ((rd_T37 ((rd_T35 l0 x4_1).f1) x5_2).f0)) ++ (⟨#[61, 34]⟩ : ByteArray)) ++ t299) ++ (⟨#[34]⟩ : ByteArray)).size ≤ 9223372036854775807
                                    · rw [if_pos c16] at H
                                      have c16b0 := eq_true c16
                                      have c16b1 : decide (x3_2.size + (((((⟨#[32]⟩ : ByteArray) ++ ((rd_T37 ((rd_T35 l0 x4_1).f1) x5_2).f0)) ++ (⟨#[61, 34]⟩ : ByteArray)) ++ t299) ++ (⟨#[34]⟩ : ByteArray)).size ≤ 9223372036854775807) = true := decide_eq_true c16
                                      try have c16b2 : (9223372036854775807 < x3_2.size + (((((⟨#[32]⟩ : ByteArray) ++ ((rd_T37 ((rd_T35 l0 x4_1).f1) x5_2).f0)) ++ (⟨#[61, 34]⟩ : ByteArray)) ++ t299) ++ (⟨#[34]⟩ : ByteArray)).size) = False := eq_false (Nat.not_lt.2 c16)
                                      try have c16s2 : (9223372036854775807 < x3_2.size + (1 + ((rd_T37 ((rd_T35 l0 x4_1).f1) x5_2).f0).size + 2 + (t299).size + 1)) = False := eq_false (by have z_ := c16; simp only [ByteArray.size_append] at z_; have y0_ : (⟨#[32]⟩ : ByteArray).size = 1 := rfl; have y1_ : (⟨#[61, 34]⟩ : ByteArray).size = 2 := rfl; have y2_ : (⟨#[34]⟩ : ByteArray).size = 1 := rfl; omega)
                                      have H' := Aside0.mk H
                                      clear H
                                      have p294 : 0 ≤ (x4_1 : Int) := of_decide_eq_true (by first | (with_reducible assumption) | assumption)
                                      have q294 : x4_1 < (l0.length : Int) := of_decide_eq_true (by first | (with_reducible assumption) | assumption)
                                      obtain ⟨ad294, A294_1, c294_1, e294, hx294_0, hx294_1, hl294_1, hi294_1⟩ := at_T35 HR0.out x4_1 p294 q294
                                      obtain rfl : ad293 = ad294 := (by injection e294)
                                      have HR294_1 := Aside0.mk hi294_1
                                      have HC294_1 := Aside0.mk hl294_1
                                      clear hi294_1 hl294_1
                                      replace p294 := eq_true p294
                                      replace q294 := eq_true q294
                                      have p295 : 0 ≤ (x4_1 : Int) := of_decide_eq_true (by first | (with_reducible assumption) | assumption)
                                      have q295 : x4_1 < (l0.length : Int) := of_decide_eq_true (by first | (with_reducible assumption) | assumption)
                                      obtain ⟨ad295, A295_1, c295_1, e295, hx295_0, hx295_1, hl295_1, hi295_1⟩ := at_T35 HR0.out x4_1 p295 q295
                                      obtain rfl : ad293 = ad295 := (by injection e295)
                                      have HR295_1 := Aside0.mk hi295_1
                                      have HC295_1 := Aside0.mk hl295_1
                                      clear hi295_1 hl295_1
                                      replace p295 := eq_true p295
                                      replace q295 := eq_true q295
                                      have ea_ := Option.some.inj (hx294_1.symm.trans hx295_1)
                                      injection ea_ with ea_ en_ ec_
                                      subst ea_
                                      subst ec_
                                      clear en_
                                      have p296 : 0 ≤ (x5_2 : Int) := of_decide_eq_true (by first | (with_reducible assumption) | assumption)
                                      have q296 : x5_2 < (((rd_T35 l0 x4_1).f1).length : Int) := of_decide_eq_true (by first | (with_reducible assumption) | assumption)
                                      obtain ⟨ad296, e296, hx296_0, hx296_1⟩ := at_T37 HR295_1.out x5_2 p296 q296
                                      cases e296
                                      replace p296 := eq_true p296
                                      replace q296 := eq_true q296
                                      have p297 : 0 ≤ (x4_1 : Int) := of_decide_eq_true (by first | (with_reducible assumption) | assumption)
                                      have q297 : x4_1 < (l0.length : Int) := of_decide_eq_true (by first | (with_reducible assumption) | assumption)
                                      obtain ⟨ad297, A297_1, c297_1, e297, hx297_0, hx297_1, hl297_1, hi297_1⟩ := at_T35 HR0.out x4_1 p297 q297
                                      obtain rfl : ad293 = ad297 := (by injection e297)
                                      have HR297_1 := Aside0.mk hi297_1
                                      have HC297_1 := Aside0.mk hl297_1
                                      clear hi297_1 hl297_1
                                      replace p297 := eq_true p297
                                      replace q297 := eq_true q297
                                      have ea_ := Option.some.inj (hx294_1.symm.trans hx297_1)
                                      injection ea_ with ea_ en_ ec_
                                      subst ea_
                                      subst ec_
                                      clear en_
                                      have p298 : 0 ≤ (x5_2 : Int) := of_decide_eq_true (by first | (with_reducible assumption) | assumption)
                                      have q298 : x5_2 < (((rd_T35 l0 x4_1).f1).length : Int) := of_decide_eq_true (by first | (with_reducible assumption) | assumption)
                                      obtain ⟨ad298, e298, hx298_0, hx298_1⟩ := at_T37 HR297_1.out x5_2 p298 q298
                                      cases e298
                                      replace p298 := eq_true p298
                                      replace q298 := eq_true q298
                                      go_wp2_with (first | (go_at_call 15; (with_reducible refine (gongref10_Escape.calls k2 ((rd_T37 ((rd_T35 l0 x4_1).f1) x5_2).f1) t299 _ A13.out).mono ?_); rintro e w' ⟨rfl, ⟨nd, rfl⟩⟩; (try first | exact ⟨rfl, _, World.drewN_drewN _ _ _⟩ | exact ⟨rfl, _, Eq.trans (World.drewN_drewN _ _ _) (congrArg (World.drewN _) (Nat.add_assoc _ _ _))⟩)))
                                      repeat (go_quiet (first | (go_at_call 15; (with_reducible refine (gongref10_Escape.calls k2 ((rd_T37 ((rd_T35 l0 x4_1).f1) x5_2).f1) t299 _ A13.out).mono ?_); rintro e w' ⟨rfl, ⟨nd, rfl⟩⟩; (try first | exact ⟨rfl, _, World.drewN_drewN _ _ _⟩ | exact ⟨rfl, _, Eq.trans (World.drewN_drewN _ _ _) (congrArg (World.drewN _) (Nat.add_assoc _ _ _))⟩))); try go_wp2_with (first | (go_at_call 15; (with_reducible refine (gongref10_Escape.calls k2 ((rd_T37 ((rd_T35 l0 x4_1).f1) x5_2).f1) t299 _ A13.out).mono ?_); rintro e w' ⟨rfl, ⟨nd, rfl⟩⟩; (try first | exact ⟨rfl, _, World.drewN_drewN _ _ _⟩ | exact ⟨rfl, _, Eq.trans (World.drewN_drewN _ _ _) (congrArg (World.drewN _) (Nat.add_assoc _ _ _))⟩))))
                                      go_roundg k2
                                      case measure => have := HK1.out; have := HK2.out; omega
                                      case rel => exact ⟨(x3_2 ++ (((((⟨#[32]⟩ : ByteArray) ++ ((rd_T37 ((rd_T35 l0 x4_1).f1) x5_2).f0)) ++ (⟨#[61, 34]⟩ : ByteArray)) ++ t299) ++ (⟨#[34]⟩ : ByteArray))), (wrap64 (x5_2 + 1)), (by first | rfl | (simp; done) | (simp [*]; done)), (by first | rfl | (simp; done) | (simp [*]; done)), H', ⟨by have := HK1.out; have := HK2.out; omega⟩, by repeat (first | exact Drawn0.refl _ | apply Drawn0.step)⟩
                                    · rw [if_neg c16] at H
                                      exact absurd H (by simp)
                                  · rw [if_neg c15] at H
                                    exact absurd H (by simp)
                                · rw [if_neg c14] at H
                                  exact absurd H (by simp)
                              · rw [if_neg c12] at H
                                exact absurd H (by simp)
                            · rw [if_neg c11] at H
                              exact absurd H (by simp)
                          · rw [if_neg c10] at H
                            exact absurd H (by simp)
                        · rw [if_neg c9] at H
                          have c9b0 : decide (x5_2 < (((rd_T35 l0 x4_1).f1).length : Int)) = false := decide_eq_false c9
                          clear c9
                          by_cases c17 : x3_2.size + 1 ≤ 9223372036854775807
                          · rw [if_pos c17] at H
                            have c17b0 := eq_true c17
                            have c17b1 : decide (x3_2.size + 1 ≤ 9223372036854775807) = true := decide_eq_true c17
                            try have c17b2 : (9223372036854775807 < x3_2.size + 1) = False := eq_false (Nat.not_lt.2 c17)
                            have H' := Aside0.mk H
                            clear H
                            have p294 : 0 ≤ (x4_1 : Int) := of_decide_eq_true (by first | (with_reducible assumption) | assumption)
                            have q294 : x4_1 < (l0.length : Int) := of_decide_eq_true (by first | (with_reducible assumption) | assumption)
                            obtain ⟨ad294, A294_1, c294_1, e294, hx294_0, hx294_1, hl294_1, hi294_1⟩ := at_T35 HR0.out x4_1 p294 q294
                            obtain rfl : ad293 = ad294 := (by injection e294)
                            have HR294_1 := Aside0.mk hi294_1
                            have HC294_1 := Aside0.mk hl294_1
                            clear hi294_1 hl294_1
                            replace p294 := eq_true p294
                            replace q294 := eq_true q294
                            go_wp2
                            repeat (go_quiet (fail); try go_wp2)
                            go_roundg k2
                            case measure => have := HK1.out; have := HK2.out; omega
                            case rel => exact ⟨(x3_2 ++ (⟨#[93]⟩ : ByteArray)), (wrap64 (x4_1 + 1)), (by first | rfl | (simp; done) | (simp [*]; done)), (by first | rfl | (simp; done) | (simp [*]; done)), H', ⟨by have := HK1.out; have := HK2.out; omega⟩, by repeat (first | exact Drawn0.refl _ | apply Drawn0.step)⟩
                          · rw [if_neg c17] at H
                            exact absurd H (by simp)
                      · rw [if_neg c8] at H
                        exact absurd H (by simp)
                    · rw [if_neg c7] at H
                      exact absurd H (by simp)
              · rw [if_neg c6] at H
                exact absurd H (by simp)
            · rw [if_neg c5] at H
              exact absurd H (by simp)
          · rw [if_neg c4] at H
            exact absurd H (by simp)
        · rw [if_neg c3] at H
          have c3b0 : decide (x4_1 < (l0.length : Int)) = false := decide_eq_false c3
          clear c3
          obtain rfl := Option.some.inj H
          go_wp2
          repeat (go_quiet (fail); try go_wp2)
          go_ret
          exact ⟨by first | rfl | (simp; done) | (simp [*]; done) | (simp [IntKind.wrap_u8, IntKind.wrap_i64, wrap64]; done) | (simp only [IntKind.wrap_u8]; rfl), by repeat (first | exact Drawn0.refl _ | apply Drawn0.step)⟩

end Go.Proofs.Ytgopphglkjdcaaa.Px
end
/-! Px29 -/
section
-- Laid by wip/hprint.py: the kit's print of the translation, turned in places, beside contracts that this session wrote by hand; Lean checks all of it.
namespace Go.Proofs.Ytgopphglkjdcaaa.Px
open Go.RowKit Go.Proofs.YtgopphglkjdcaaaW.PrintWords Go.Proofs.YtgopphglkjdcaaaW.PrintLast Go.Proofs.YtgopphglkjdcaaaW.PrintMore
attribute [local go_sem] max2_int min2_int max_two min_two max_three min_three max_four min_four   -- for this text's walks alone
set_option linter.unusedVariables false
set_option linter.unusedSimpArgs false

/-! ### gonglaw10_copied: function 23 -/
def gonglaw10_copied.l0 : Nat → List (S35) → List (S35) → Int → Option ((List (S35)))
  | 0, _, _, _ => none
  | k + 1, x0, x3, x4 => if x4 < (x0.length : Int) then (if 0 ≤ x4 then ((some (([] : List (S37)) : List (S37))).bind fun y283 => (if y283.length + ((rd_T35 x0 x4).f1).length < 4398046511104 then (if x3.length < 3518437208883 then (gonglaw10_copied.l0 k x0 (x3 ++ [(⟨(rd_T35 x0 x4).f0, (y283 ++ ((rd_T35 x0 x4).f1))⟩ : S35)]) (wrap64 (x4 + 1))) else (none)) else (none))) else (none)) else (some x3)
def gonglaw10_copied.f (k : Nat) (l0 : List (S35)) : Option ((List (S35))) := gonglaw10_copied.l0 k l0 ([] : List (S35)) 0
theorem gonglaw10_copied.mono_l : ∀ k, (∀ y0 y1 y2, LeO (gonglaw10_copied.l0 k y0 y1 y2) (gonglaw10_copied.l0 (k + 1) y0 y1 y2))
  | 0 => fun _ _ _ r h => by simp [gonglaw10_copied.l0] at h
  | k + 1 => by
    have ih0 := gonglaw10_copied.mono_l k
    · intro y0 y1 y2
      unfold gonglaw10_copied.l0
      repeat' first
      | (with_reducible exact ih0 _ _ _)
      | (with_reducible exact LeO.refl _)
      | (with_reducible exact LeO.none _)
      | (with_reducible refine LeO.ite ?_ ?_)
      | (with_reducible refine LeO.bind ?_ (fun _ => ?_))
      | exact ih0 _ _ _
      | exact LeO.none _
      | refine LeO.ite ?_ ?_
      | refine LeO.bind ?_ (fun _ => ?_)
theorem gonglaw10_copied.mono : ∀ a0 k, LeO (gonglaw10_copied.f k a0) (gonglaw10_copied.f (k + 1) a0) := by
  intro a0 k
  have ih0 := gonglaw10_copied.mono_l k
  unfold gonglaw10_copied.f
  repeat' first
      | (with_reducible exact ih0 _ _ _)
      | (with_reducible exact LeO.refl _)
      | (with_reducible exact LeO.none _)
      | (with_reducible refine LeO.ite ?_ ?_)
      | (with_reducible refine LeO.bind ?_ (fun _ => ?_))
      | exact ih0 _ _ _
      | exact LeO.none _
      | refine LeO.ite ?_ ?_
      | refine LeO.bind ?_ (fun _ => ?_)
def gonglaw10_copied.T5 : Bool × List (List Nat × List Nat) := (true, [([], []), ([], []), ([], []), ([1, 2], [1, 2]), ([3], [3]), ([4], [4]), ([], []), ([], []), ([], []), ([7, 8], [7, 8]), ([9], [9]), ([10], [10]), ([6, 11], [6, 11]), ([5, 12], [5, 12]), ([13], [13]), ([0, 14, 12], [0, 14]), ([15, 15, 0, 1, 2, 3, 4, 5, 6, 7, 8, 9, 10, 11, 12, 13, 14, 15], [0, 15])])
def gonglaw10_copied.B5 : List Nat := [0, 0, 0, 6, 14, 30, 0, 0, 0, 384, 896, 1920, 4032, 8190, 16382, 32767, 65535]
theorem gonglaw10_copied.tab5 : rtab .any (opsOf Try.f23 5) = gonglaw10_copied.T5 := by kernel_rfl
theorem gonglaw10_copied.bits5 : waitsOk gonglaw10_copied.T5.2 gonglaw10_copied.B5 = true := by kernel_rfl
set_option maxHeartbeats 8000000 in
set_option maxRecDepth 100000 in
theorem gonglaw10_copied.calls (k : Nat) (A0 : Option Addr) (c0 : Nat) (l0 : List (S35)) (r : List (S35)) (w : World) (hr0 : Kd.C k35 w A0 l0.length l0) (hc0 : l0.length ≤ c0) (h : gonglaw10_copied.f k l0 = some r) :
    Calls Try.prog 23 #[.slice A0 l0.length c0] w fun e w' => ∃ v0_ : Value, e = .returned (v0_) ∧ Kd.S k35 35 w' w.heap.size (fun _ => True) v0_ r ∧ Below w.heap.size w w' := by
  have hu35 := Try.underlying35
  have HR0 := Aside0.mk hr0
  have HC0 := Aside0.mk hc0
  clear hr0 hc0
  have HB := Aside0.mk (Below.refl w.heap.size w)
  have H : (gonglaw10_copied.l0 k l0 ([] : List (S35)) 0) = some r := h
  clear h
  have H' := Aside0.mk H
  clear H
  go_enter Try.func23, Try.ntmps23
  go_wp2
  go_loopg [3, 4] k (fun kq v3 v4 w' => ∃ (x3_1 : List (S35)) (x4_1 : Int), v4 = .int .i64 x4_1 ∧ Aside0 (gonglaw10_copied.l0 kq l0 x3_1 x4_1 = some r) ∧ Aside0 (kq ≤ k) ∧ Aside0 (Kd.S k35 35 w' w.heap.size (fun _ => True) v3 x3_1) ∧ Aside0 (Below w.heap.size w w'))
  case atStart => exact ⟨(([] : List (S35))), (0), (by first | rfl | (simp; done) | (simp [*]; done)), H', ⟨Nat.le_refl _⟩, ⟨by first | exact Kd.S_nil _ _ _ _ _ | exact Kd.N_nil _ _ _ _ _ | exact Kd.V_nil _ _ _ _ _ | exact Kd.Q_nil _ _ _ _ _ | exact Kd.R_nil _ _ _ _ _⟩, ⟨by repeat (first | (with_reducible first | exact HB.out | apply below_alloc | apply pw_below_drewN | apply below_drew1) | exact HB.out)⟩⟩
  case round =>
    clear H'
    obtain ⟨x3_1, x4_1, rfl, HA, HK1, HO_3, HB⟩ := hrel
    cases gk with
    | zero => exact absurd HA.out (by simp [gonglaw10_copied.l0])
    | succ k1 =>
      have H := HA.out
      clear HA
      simp only [gonglaw10_copied.l0] at H
      by_cases c2 : x4_1 < (l0.length : Int)
      · rw [if_pos c2] at H
        have c2b0 : decide (x4_1 < (l0.length : Int)) = true := decide_eq_true c2
        clear c2
        by_cases c3 : 0 ≤ x4_1
        · rw [if_pos c3] at H
          have c3b0 : decide (0 ≤ x4_1) = true := decide_eq_true c3
          clear c3
          obtain ⟨y283, hy283⟩ : ∃ y_ : List (S37), y_ = (([] : List (S37))) := ⟨_, rfl⟩
          replace H : (if y283.length + ((rd_T35 l0 x4_1).f1).length < 4398046511104 then (if x3_1.length < 3518437208883 then (gonglaw10_copied.l0 k1 l0 (x3_1 ++ [(⟨(rd_T35 l0 x4_1).f0, (y283 ++ ((rd_T35 l0 x4_1).f1))⟩ : S35)]) (wrap64 (x4_1 + 1))) else (none)) else (none)) = some r := by first | (rw [hy283]; with_reducible exact H) | (have H2_ := (Option.bind_some _ _).symm.trans H; rw [hy283]; with_reducible exact H2_) | (have H2_ := (Option.bind_some _ _).symm.trans H; with_reducible exact H2_) | with_reducible exact H | (rw [hy283]; exact H) | exact H
          have Ny283 := Aside0.mk hy283
          clear hy283
          by_cases c4 : y283.length + ((rd_T35 l0 x4_1).f1).length < 4398046511104
          · rw [if_pos c4] at H
            have LMc4 := Aside0.mk c4
            clear c4
            obtain ⟨y287, hy287⟩ : ∃ y_ : List (S37), y_ = (y283 ++ ((rd_T35 l0 x4_1).f1)) := ⟨_, rfl⟩
            replace H : (if x3_1.length < 3518437208883 then (gonglaw10_copied.l0 k1 l0 (x3_1 ++ [(⟨(rd_T35 l0 x4_1).f0, y287⟩ : S35)]) (wrap64 (x4_1 + 1))) else (none)) = some r := by first | (rw [hy287]; with_reducible exact H) | (have H2_ := (Option.bind_some _ _).symm.trans H; rw [hy287]; with_reducible exact H2_) | (have H2_ := (Option.bind_some _ _).symm.trans H; with_reducible exact H2_) | with_reducible exact H | (rw [hy287]; exact H) | exact H
            have Ny287 := Aside0.mk hy287
            clear hy287
            by_cases c5 : x3_1.length < 3518437208883
            · rw [if_pos c5] at H
              have LMc5 := Aside0.mk c5
              clear c5
              obtain ⟨y290, hy290⟩ : ∃ y_ : List (S35), y_ = (x3_1 ++ [(⟨(rd_T35 l0 x4_1).f0, y287⟩ : S35)]) := ⟨_, rfl⟩
              replace H : (gonglaw10_copied.l0 k1 l0 y290 (wrap64 (x4_1 + 1))) = some r := by first | (rw [hy290]; with_reducible exact H) | (have H2_ := (Option.bind_some _ _).symm.trans H; rw [hy290]; with_reducible exact H2_) | (have H2_ := (Option.bind_some _ _).symm.trans H; with_reducible exact H2_) | with_reducible exact H | (rw [hy290]; exact H) | exact H
              have Ny290 := Aside0.mk hy290
              clear hy290
              have H' := Aside0.mk H
              clear H
              try go_wp2
              have n0_ := Aside0.mk (Kd.S_drew HO_3.out)
              have n1_ := Aside0.mk (below_drew1 HB.out)
              clear HO_3
              clear HB
              have HO_3 := n0_
              have HB := n1_
              clear n0_ n1_
              have p282 : 0 ≤ (x4_1 : Int) := of_decide_eq_true (by first | (with_reducible assumption) | assumption)
              have q282 : x4_1 < (l0.length : Int) := of_decide_eq_true (by first | (with_reducible assumption) | assumption)
              obtain ⟨ad282, A282_1, c282_1, e282, hx282_0, hx282_1, hl282_1, hi282_1⟩ := at_T35 HR0.out x4_1 p282 q282
              have hw282_1 := hx282_1
              have hw282_0 := hx282_0
              cases e282
              replace hx282_0 := (HB.out.cell (World.block_lt_of_cell? w _ hx282_0)).trans hx282_0
              replace hx282_1 := (HB.out.cell (World.block_lt_of_cell? w _ hx282_1)).trans hx282_1
              have HR282_1 := Aside0.mk hi282_1
              have HC282_1 := Aside0.mk hl282_1
              clear hi282_1 hl282_1
              replace p282 := eq_true p282
              replace q282 := eq_true q282
              have p286 : 0 ≤ (x4_1 : Int) := of_decide_eq_true (by first | (with_reducible assumption) | assumption)
              have q286 : x4_1 < (l0.length : Int) := of_decide_eq_true (by first | (with_reducible assumption) | assumption)
              obtain ⟨ad286, A286_1, c286_1, e286, hx286_0, hx286_1, hl286_1, hi286_1⟩ := at_T35 HR0.out x4_1 p286 q286
              have hw286_1 := hx286_1
              have hw286_0 := hx286_0
              obtain rfl : ad282 = ad286 := (by injection e286)
              replace hx286_0 := (HB.out.cell (World.block_lt_of_cell? w _ hx286_0)).trans hx286_0
              replace hx286_1 := (HB.out.cell (World.block_lt_of_cell? w _ hx286_1)).trans hx286_1
              have HR286_1 := Aside0.mk hi286_1
              have HC286_1 := Aside0.mk hl286_1
              clear hi286_1 hl286_1
              replace p286 := eq_true p286
              replace q286 := eq_true q286
              have ea_ := Option.some.inj (hx282_1.symm.trans hx286_1)
              injection ea_ with ea_ en_ ec_
              subst ea_
              subst ec_
              clear en_
              refine start_ (n := 17) (S := fun w' => w'.cell? (ad282.add ((x4_1).toNat * 2)) = some (.string ((rd_T35 l0 x4_1).f0)) ∧ w'.cell? ⟨(ad282.add ((x4_1).toNat * 2)).block, (ad282.add ((x4_1).toNat * 2)).off + 1, none⟩ = some (.slice A282_1 ((rd_T35 l0 x4_1).f1).length c282_1) ∧ w'.cell? (ad282.add ((x4_1).toNat * 2)) = some (.string ((rd_T35 l0 x4_1).f0)) ∧ w'.cell? ⟨(ad282.add ((x4_1).toNat * 2)).block, (ad282.add ((x4_1).toNat * 2)).off + 1, none⟩ = some (.slice A282_1 ((rd_T35 l0 x4_1).f1).length c282_1)) (ds := []) #[false, false, false, false, false, false, false, false, false, false, false, false, false, false, false, false, false] (by kernel_rfl) rfl rfl ⟨((HB.out.cell (World.block_lt_of_cell? w _ hw282_0)).trans hw282_0), ((HB.out.cell (World.block_lt_of_cell? w _ hw282_1)).trans hw282_1), ((HB.out.cell (World.block_lt_of_cell? w _ hw286_0)).trans hw286_0), ((HB.out.cell (World.block_lt_of_cell? w _ hw286_1)).trans hw286_1)⟩ (fun hHeld => ?_); refine with_tabW gonglaw10_copied.tab5 gonglaw10_copied.bits5 (fun HT_ HW_ => ?_)
              generalize wr.drew = w6 at HO_3 HB HR282_1 HR286_1 hx282_0 hx282_1 hx286_0 hx286_1 hHeld ⊢
              refine pure_ (i := 0) (N := some 11) (v := ?_) (a' := ?_) #[true, false, false, false, false, false, false, false, false, false, false, false, false, false, false, false, false] rfl rfl (any_of HT_.out (by kernel_rfl)) (fun _ _ _ h => h) (Or.inl ⟨by rfl, ?_⟩) ?_ ?_
              rotate_left
              · intro w'
                go_simp
                with_reducible rfl
              rotate_left
              · simp only [Act.put, List.setIfInBounds_toArray, List.set_cons_zero, List.set_cons_succ, i64_w, i32_w]
                rfl
              refine pure_ (i := 1) (N := some 12) (v := ?_) (a' := ?_) #[true, true, false, false, false, false, false, false, false, false, false, false, false, false, false, false, false] rfl rfl (any_of HT_.out (by kernel_rfl)) (fun _ _ _ h => h) (Or.inl ⟨by rfl, ?_⟩) ?_ ?_
              rotate_left
              · intro w'
                go_simp
                with_reducible rfl
              rotate_left
              · simp only [Act.put, List.setIfInBounds_toArray, List.set_cons_zero, List.set_cons_succ, i64_w, i32_w]
                rfl
              refine pure_ (i := 2) (N := some 13) (v := ?_) (a' := ?_) #[true, true, true, false, false, false, false, false, false, false, false, false, false, false, false, false, false] rfl rfl (any_of HT_.out (by kernel_rfl)) (fun _ _ _ h => h) (Or.inl ⟨by rfl, ?_⟩) ?_ ?_
              rotate_left
              · intro w'
                go_simp
                with_reducible rfl
              rotate_left
              · simp only [Act.put, List.setIfInBounds_toArray, List.set_cons_zero, List.set_cons_succ, i64_w, i32_w]
                rfl
              refine pure_ (i := 3) (N := some 14) (v := ?_) (a' := ?_) #[true, true, true, true, false, false, false, false, false, false, false, false, false, false, false, false, false] rfl rfl (any_of HT_.out (by kernel_rfl)) (fun _ _ _ h => h) (Or.inl ⟨by rfl, ?_⟩) ?_ ?_
              rotate_left
              · intro w'
                go_simp
                with_reducible rfl
              rotate_left
              · simp only [Act.put, List.setIfInBounds_toArray, List.set_cons_zero, List.set_cons_succ, i64_w, i32_w]
                rfl
              refine pure_ (i := 4) (N := some 15) (v := ?_) (a' := ?_) #[true, true, true, true, true, false, false, false, false, false, false, false, false, false, false, false, false] rfl rfl (any_of HT_.out (by kernel_rfl)) (fun _ _ _ h => h) (Or.inl ⟨by rfl, ?_⟩) ?_ ?_
              rotate_left
              · intro w'
                go_simp
                with_reducible rfl
              rotate_left
              · simp only [Act.put, List.setIfInBounds_toArray, List.set_cons_zero, List.set_cons_succ, i64_w, i32_w]
                rfl
              refine pure_ (i := 7) (N := some 18) (v := ?_) (a' := ?_) #[true, true, true, true, true, false, false, true, false, false, false, false, false, false, false, false, false] rfl rfl (any_of HT_.out (by kernel_rfl)) (fun _ _ _ h => h) (Or.inl ⟨by rfl, ?_⟩) ?_ ?_
              rotate_left
              · intro w'
                go_simp
                with_reducible rfl
              rotate_left
              · simp only [Act.put, List.setIfInBounds_toArray, List.set_cons_zero, List.set_cons_succ, i64_w, i32_w]
                rfl
              refine pure_ (i := 8) (N := some 19) (v := ?_) (a' := ?_) #[true, true, true, true, true, false, false, true, true, false, false, false, false, false, false, false, false] rfl rfl (any_of HT_.out (by kernel_rfl)) (fun _ _ _ h => h) (Or.inl ⟨by rfl, ?_⟩) ?_ ?_
              rotate_left
              · intro w'
                go_simp
                with_reducible rfl
              rotate_left
              · simp only [Act.put, List.setIfInBounds_toArray, List.set_cons_zero, List.set_cons_succ, i64_w, i32_w]
                rfl
              refine pure_ (i := 9) (N := some 20) (v := ?_) (a' := ?_) #[true, true, true, true, true, false, false, true, true, true, false, false, false, false, false, false, false] rfl rfl (any_of HT_.out (by kernel_rfl)) (fun _ _ _ h => h) (Or.inl ⟨by rfl, ?_⟩) ?_ ?_
              rotate_left
              · intro w'
                go_simp
                with_reducible rfl
              rotate_left
              · simp only [Act.put, List.setIfInBounds_toArray, List.set_cons_zero, List.set_cons_succ, i64_w, i32_w]
                rfl
              refine pure_ (i := 10) (N := some 21) (v := ?_) (a' := ?_) #[true, true, true, true, true, false, false, true, true, true, true, false, false, false, false, false, false] rfl rfl (any_of HT_.out (by kernel_rfl)) (fun _ _ _ h => h) (Or.inl ⟨by rfl, ?_⟩) ?_ ?_
              rotate_left
              · intro w'
                go_simp
                with_reducible rfl
              rotate_left
              · simp only [Act.put, List.setIfInBounds_toArray, List.set_cons_zero, List.set_cons_succ, i64_w, i32_w]
                rfl
              refine take_ (i := 5) (N := some 16) (v := ?_) (a' := ?_) #[true, true, true, true, true, true, false, true, true, true, true, false, false, false, false, false, false] rfl rfl (take_ofW HT_.out HW_.out (by kernel_rfl)) (fun _ _ _ h => h) (Or.inl ⟨by rfl, ?_⟩) hHeld ?_ ?_
              rotate_left
              · rintro w' ⟨s0, s1, s2, s3⟩
                go_simp
                with_reducible rfl
              rotate_left
              · simp only [Act.put, List.setIfInBounds_toArray, List.set_cons_zero, List.set_cons_succ, i64_w, i32_w]
                rfl
              refine take_ (i := 11) (N := some 22) (v := ?_) (a' := ?_) #[true, true, true, true, true, true, false, true, true, true, true, true, false, false, false, false, false] rfl rfl (take_ofW HT_.out HW_.out (by kernel_rfl)) (fun _ _ _ h => h) (Or.inl ⟨by rfl, ?_⟩) hHeld ?_ ?_
              rotate_left
              · rintro w' ⟨s0, s1, s2, s3⟩
                go_simp
                with_reducible rfl
              rotate_left
              · simp only [Act.put, List.setIfInBounds_toArray, List.set_cons_zero, List.set_cons_succ, i64_w, i32_w]
                rfl
              refine one_ (i := 6) (N := some 17) #[true, true, true, true, true, true, true, true, true, true, true, true, false, false, false, false, false] rfl rfl (one_of HT_.out (by kernel_rfl)) (by decide) (fun K hK => ?_)
              refine Kd.R_lit_step k37 _ 37 ?hg (N := 17) ?hd (xs := ([] : List (S37))) (inner := []) (ok := fun _ => True) (okp := fun _ => True) ?hr ?hp (fun _ hk => hk) trivial (Below.refl _ _) (Nat.le_refl _) (by simp) ?_; (case hd => rfl); (case hg => rfl); (case hr => first | (go_simp; done) | (go_simp; rfl)); (case hp => exact (Reps.none _ _))
              intro v284 w7 ho8 hb hg_ hnew_
              clear hg_ hnew_
              (first | rw [← Ny283.out] at ho8 | (simp only [Int.reduceToNat] at ho8; rw [← Ny283.out] at ho8))
              have n0_ := Aside0.mk (Kd.S_elder' (by (with_reducible repeat (first | apply Kd.S_alloc | apply Kd.S_drewN | apply Kd.S_drew)); exact HO_3.out) (Kd.R_base ho8) hb)
              have n1_ := Aside0.mk (Kd.R_lower ho8 (below_size (by repeat (first | (with_reducible first | exact HB.out | apply below_alloc | apply pw_below_drewN | apply below_drew1) | exact HB.out))))
              have n2_ := Aside0.mk (below_step (by repeat (first | (with_reducible first | exact HB.out | apply below_alloc | apply pw_below_drewN | apply below_drew1) | exact HB.out)) hb)
              clear HO_3
              clear HB
              have HO_3 := n0_
              have HO285 := n1_
              have HB := n2_
              clear n0_ n1_ n2_
              clear hb ho8
              refine hK.out _ _ ⟨((HB.out.cell (World.block_lt_of_cell? w _ hw282_0)).trans hw282_0), ((HB.out.cell (World.block_lt_of_cell? w _ hw282_1)).trans hw282_1), ((HB.out.cell (World.block_lt_of_cell? w _ hw286_0)).trans hw286_0), ((HB.out.cell (World.block_lt_of_cell? w _ hw286_1)).trans hw286_1)⟩ (fun hHeld => ?_)
              clear hK K
              refine norm_ (a' := ?_) ?_ ?_
              rotate_left
              · show Act.put _ (some 17) _ = _
                simp only [Act.put, List.setIfInBounds_toArray, List.set_cons_zero, List.set_cons_succ, i64_w, i32_w]
                rfl
              refine one_ (i := 12) (N := some 23) #[true, true, true, true, true, true, true, true, true, true, true, true, true, false, false, false, false] rfl rfl (one_of HT_.out (by kernel_rfl)) (by decide) (fun K hK => ?_)
              refine Kd.R_append_rows_step k37 (w0 := w) w.heap.size (by rfl) (.tmp 17) (.tmp 22) 33 37 (.agg #[(.string ⟨#[]⟩), (.string ⟨#[]⟩)]) 32 rfl Try.underlying33 info37 rfl (by decide) (by omega) v284 y283 ((rd_T35 l0 x4_1).f1) _ _ _ (fun _ => True) (fun _ => False) rfl rfl ?aO ?aR (fun _ _ h => h) (fun _ h => h.elim) ?aF ?aB ?aS ?aL ?_
              (case aR => repeat (first | exact (Kd.C_below HR286_1.out HB.out) | (with_reducible refine Kd.C_alloc ?_ _) | (with_reducible refine Kd.C_drewN ?_ _) | (with_reducible refine Kd.C_drew ?_)))
              (case aB => exact (by repeat (first | (with_reducible first | exact HB.out | apply below_alloc | apply pw_below_drewN | apply below_drew1) | exact HB.out)))
              (case aF => exact (fun _ _ => trivial))
              (case aO => exact (by (with_reducible repeat (first | apply Kd.R_alloc | apply Kd.R_drewN | apply Kd.R_drew)); exact HO285.out))
              (case aS => exact (below_size (by repeat (first | (with_reducible first | exact HB.out | apply below_alloc | apply pw_below_drewN | apply below_drew1) | exact HB.out))))
              (case aL => have := LMc4.out; omega)
              intro v288 w9 ho hb hg hat
              rw [← Ny287.out] at ho
              have n0_ := Aside0.mk (Kd.S_after (ok := (fun _ => True)) (by (with_reducible repeat (first | apply Kd.S_alloc | apply Kd.S_drewN | apply Kd.S_drew)); exact HO_3.out) hg hat)
              have n1_ := Aside0.mk (hb)
              have n2_ := Aside0.mk (ho)
              clear HO_3
              clear HB
              clear HO285
              have HO_3 := n0_
              have HB := n1_
              have HO289 := n2_
              clear n0_ n1_ n2_
              clear ho hb hg hat
              obtain ⟨Ao10, co10, eo10⟩ := Kd.R_slice HO289.out
              (first | subst eo10 | (injection eo10 with f1_ f2_ f3_; have f4_ := f1_.symm; have f5_ := f3_.symm; clear f1_ f2_ f3_; subst f4_; subst f5_))
              refine hK.out _ _ ⟨((HB.out.cell (World.block_lt_of_cell? w _ hw282_0)).trans hw282_0), ((HB.out.cell (World.block_lt_of_cell? w _ hw282_1)).trans hw282_1), ((HB.out.cell (World.block_lt_of_cell? w _ hw286_0)).trans hw286_0), ((HB.out.cell (World.block_lt_of_cell? w _ hw286_1)).trans hw286_1)⟩ (fun hHeld => ?_)
              clear hK K
              refine norm_ (a' := ?_) ?_ ?_
              rotate_left
              · show Act.put _ (some 23) _ = _
                simp only [Act.put, List.setIfInBounds_toArray, List.set_cons_zero, List.set_cons_succ, i64_w, i32_w]
                rfl
              refine pure_ (i := 13) (N := some 24) (v := ?_) (a' := ?_) #[true, true, true, true, true, true, true, true, true, true, true, true, true, true, false, false, false] rfl rfl (any_of HT_.out (by kernel_rfl)) (fun _ _ _ h => h) (Or.inl ⟨by rfl, ?_⟩) ?_ ?_
              rotate_left
              · intro w'
                go_simp
                with_reducible rfl
              rotate_left
              · simp only [Act.put, List.setIfInBounds_toArray, List.set_cons_zero, List.set_cons_succ, i64_w, i32_w]
                rfl
              refine one_ (i := 14) (N := some 25) #[true, true, true, true, true, true, true, true, true, true, true, true, true, true, true, false, false] rfl rfl (one_of HT_.out (by kernel_rfl)) (by decide) (fun K hK => ?_)
              refine value_ (w1 := ?_) (v := ?_) (by rfl) rfl ?_ ?_
              rotate_left 2
              · go_simp
                constructor
                · rfl
                · rfl
              refine hK.out _ _ ⟨(World.cell?_alloc_lt _ _ _ (World.block_lt_of_cell? _ _ (((HB.out.cell (World.block_lt_of_cell? w _ hw282_0)).trans hw282_0)))).trans (((HB.out.cell (World.block_lt_of_cell? w _ hw282_0)).trans hw282_0)), (World.cell?_alloc_lt _ _ _ (World.block_lt_of_cell? _ _ (((HB.out.cell (World.block_lt_of_cell? w _ hw282_1)).trans hw282_1)))).trans (((HB.out.cell (World.block_lt_of_cell? w _ hw282_1)).trans hw282_1)), (World.cell?_alloc_lt _ _ _ (World.block_lt_of_cell? _ _ (((HB.out.cell (World.block_lt_of_cell? w _ hw286_0)).trans hw286_0)))).trans (((HB.out.cell (World.block_lt_of_cell? w _ hw286_0)).trans hw286_0)), (World.cell?_alloc_lt _ _ _ (World.block_lt_of_cell? _ _ (((HB.out.cell (World.block_lt_of_cell? w _ hw286_1)).trans hw286_1)))).trans (((HB.out.cell (World.block_lt_of_cell? w _ hw286_1)).trans hw286_1))⟩ (fun hHeld => ?_)
              clear hK K
              refine norm_ (a' := ?_) ?_ ?_
              rotate_left
              · show Act.put _ (some 25) _ = _
                simp only [Act.put, List.setIfInBounds_toArray, List.set_cons_zero, List.set_cons_succ, i64_w, i32_w]
                rfl
              refine one_ (i := 15) (N := some 26) #[true, true, true, true, true, true, true, true, true, true, true, true, true, true, true, true, false] rfl rfl (one_of HT_.out (by kernel_rfl)) (by decide) (fun K hK => ?_)
              refine Kd.S_append_step k35 (w0 := w) w.heap.size (by rfl) (.tmp 11) (.tmp 25) 23 35 (.agg #[(.string ⟨#[]⟩), (.slice none 0 0)]) 40 rfl Try.underlying23 info35 rfl (by decide) (by omega) u3 x3_1 (⟨(rd_T35 l0 x4_1).f0, y287⟩ : S35) [.string ((rd_T35 l0 x4_1).f0), .slice Ao10 y287.length co10] (fun _ => True) (fun k_ => some k_ = (.slice Ao10 y287.length co10 : Value).ownBlock) rfl rfl ?aP (fun k_ hk_ => ((Kd.R_mono (ok' := fun k_ => ((fun _ => True)) k_ ∧ some k_ ≠ (u3 : Value).ownBlock) (Kd.R_apart' (HO289.out) (Kd.S_typed HO_3.out) (by decide)) (fun k_ hk => ⟨trivial, hk.2⟩))).1 k_ hk_.symm) ?aF ?aO ?aB ?aS ?aL ?_
              (case aP => exact k35_mkM _ _ _ (⟨(rd_T35 l0 x4_1).f0, y287⟩ : S35) (Kd.R_mono (Kd.R_tight rfl (Kd.R_mono (ok' := fun k_ => ((fun _ => True)) k_ ∧ some k_ ≠ (u3 : Value).ownBlock) (Kd.R_apart' (HO289.out) (Kd.S_typed HO_3.out) (by decide)) (fun k_ hk => ⟨trivial, hk.2⟩))) (fun _ h_ => h_)))
              (case aB => exact (by repeat (first | (with_reducible first | exact HB.out | apply below_alloc | apply pw_below_drewN | apply below_drew1) | exact HB.out)))
              (case aF => exact (fun _ _ => trivial))
              (case aO => exact (by (with_reducible repeat (first | apply Kd.S_alloc | apply Kd.S_drewN | apply Kd.S_drew)); exact Kd.S_mono HO_3.out (fun k_ hk => ⟨trivial, fun e_ => hk.2 e_⟩)))
              (case aS => exact (below_size (by repeat (first | (with_reducible first | exact HB.out | apply below_alloc | apply pw_below_drewN | apply below_drew1) | exact HB.out))))
              (case aL => have := LMc5.out; omega)
              intro v291 w11 ho hb hg hat
              rw [← Ny290.out] at ho
              have n0_ := Aside0.mk (hb)
              have n1_ := Aside0.mk (ho)
              clear HB
              clear HO_3
              clear HO289
              have HB := n0_
              have HO292 := n1_
              clear n0_ n1_
              clear ho hb hg hat
              refine hK.out _ _ ⟨((HB.out.cell (World.block_lt_of_cell? w _ hw282_0)).trans hw282_0), ((HB.out.cell (World.block_lt_of_cell? w _ hw282_1)).trans hw282_1), ((HB.out.cell (World.block_lt_of_cell? w _ hw286_0)).trans hw286_0), ((HB.out.cell (World.block_lt_of_cell? w _ hw286_1)).trans hw286_1)⟩ (fun hHeld => ?_)
              clear hK K
              refine norm_ (a' := ?_) ?_ ?_
              rotate_left
              · show Act.put _ (some 26) _ = _
                simp only [Act.put, List.setIfInBounds_toArray, List.set_cons_zero, List.set_cons_succ, i64_w, i32_w]
                rfl
              refine pure_ (i := 16) (N := some 3) (v := ?_) (a' := ?_) #[true, true, true, true, true, true, true, true, true, true, true, true, true, true, true, true, true] rfl rfl (any_of HT_.out (by kernel_rfl)) (fun _ _ _ h => h) (Or.inl ⟨by rfl, ?_⟩) ?_ ?_
              rotate_left
              · intro w'
                go_simp
                with_reducible rfl
              rotate_left
              · simp only [Act.put, List.setIfInBounds_toArray, List.set_cons_zero, List.set_cons_succ, i64_w, i32_w]
                rfl
              refine done_ (done_of HT_.out (by kernel_rfl)) ?_
              try go_wp2
              go_roundg k1
              case measure => have := HK1.out; omega
              case rel => exact ⟨(y290), (wrap64 (x4_1 + 1)), (by first | rfl | (simp; done) | (simp [*]; done)), H', ⟨by have := HK1.out; omega⟩, ⟨by (with_reducible repeat (first | apply Kd.S_alloc | apply Kd.S_drewN | apply Kd.S_drew)); exact HO292.out⟩, ⟨by repeat (first | (with_reducible first | exact HB.out | apply below_alloc | apply pw_below_drewN | apply below_drew1) | exact HB.out)⟩⟩
            · rw [if_neg c5] at H
              exact absurd H (by simp)
          · rw [if_neg c4] at H
            exact absurd H (by simp)
        · rw [if_neg c3] at H
          exact absurd H (by simp)
      · rw [if_neg c2] at H
        have c2b0 : decide (x4_1 < (l0.length : Int)) = false := decide_eq_false c2
        clear c2
        obtain rfl := Option.some.inj H
        go_wp2
        go_ret
        exact ⟨_, by first | rfl | (simp [errW_none, errW_some] <;> rfl) | (simp [*, errW_none, errW_some] <;> rfl), by (with_reducible repeat (first | apply Kd.S_alloc | apply Kd.S_drewN | apply Kd.S_drew)); exact HO_3.out, by repeat (first | (with_reducible first | exact HB.out | apply below_alloc | apply pw_below_drewN | apply below_drew1) | exact HB.out)⟩

end Go.Proofs.Ytgopphglkjdcaaa.Px
end
/-! Px31 -/
section
-- Laid by wip/hprint.py: the kit's print of the translation, turned in places, beside contracts that this session wrote by hand; Lean checks all of it.
namespace Go.Proofs.Ytgopphglkjdcaaa.Px
open Go.RowKit Go.Proofs.YtgopphglkjdcaaaW.PrintWords Go.Proofs.YtgopphglkjdcaaaW.PrintLast Go.Proofs.YtgopphglkjdcaaaW.PrintMore
attribute [local go_sem] max2_int min2_int max_two min_two max_three min_three max_four min_four   -- for this text's walks alone
set_option linter.unusedVariables false
set_option linter.unusedSimpArgs false

/-! ### gongref10_Print: function 24 -/
def gongref10_Print.f (k : Nat) (l0 : List (S35)) : Option (ByteArray × Int) := (gongref10_Check.f k l0).bind fun t300 => (if t300 = 0 then ((gongref10_Put.f k l0).bind fun t301 => (if (t301.size : Int) > 65536 then (some ((⟨#[]⟩ : ByteArray), 2)) else (some (t301, 0)))) else (some ((⟨#[]⟩ : ByteArray), t300)))
theorem gongref10_Print.mono : ∀ a0 k, LeO (gongref10_Print.f k a0) (gongref10_Print.f (k + 1) a0) := by
  intro a0 k
  unfold gongref10_Print.f
  repeat' first
      | (with_reducible exact gongref10_Check.mono _ _)
      | (with_reducible exact gongref10_Put.mono _ _)
      | (with_reducible exact LeO.refl _)
      | (with_reducible exact LeO.none _)
      | (with_reducible refine LeO.ite ?_ ?_)
      | (with_reducible refine LeO.bind ?_ (fun _ => ?_))
      | exact gongref10_Check.mono _ _
      | exact gongref10_Put.mono _ _
      | exact LeO.none _
      | refine LeO.ite ?_ ?_
      | refine LeO.bind ?_ (fun _ => ?_)
set_option maxHeartbeats 8000000 in
set_option maxRecDepth 100000 in
theorem gongref10_Print.calls (k : Nat) (A0 : Option Addr) (c0 : Nat) (l0 : List (S35)) (r1 : ByteArray) (r2 : Int) (w : World) (hr0 : Kd.C k35 w A0 l0.length l0) (hc0 : l0.length ≤ c0) (h : gongref10_Print.f k l0 = some (r1, r2)) :
    Calls Try.prog 24 #[.slice A0 l0.length c0] w fun e w' => e = .returned (.tuple #[.string r1, .int .i64 r2]) ∧ Below w.heap.size w w' := by
  have HR0 := Aside0.mk hr0
  have HC0 := Aside0.mk hc0
  clear hr0 hc0
  have HB := Aside0.mk (Below.refl w.heap.size w)
  have H : ((gongref10_Check.f k l0).bind fun t300 => (if t300 = 0 then ((gongref10_Put.f k l0).bind fun t301 => (if (t301.size : Int) > 65536 then (some ((⟨#[]⟩ : ByteArray), 2)) else (some (t301, 0)))) else (some ((⟨#[]⟩ : ByteArray), t300)))) = some (r1, r2) := h
  clear h
  replace H := Option.bind_eq_some_iff.mp H
  obtain ⟨t300, A20, H⟩ := H
  replace H : (if t300 = 0 then ((gongref10_Put.f k l0).bind fun t301 => (if (t301.size : Int) > 65536 then (some ((⟨#[]⟩ : ByteArray), 2)) else (some (t301, 0)))) else (some ((⟨#[]⟩ : ByteArray), t300))) = some (r1, r2) := H
  have A2 := Aside0.mk A20
  clear A20
  by_cases c3 : t300 = 0
  · rw [if_pos c3] at H
    have c3b0 : (t300 == 0) = true := beq_iff_eq.mpr c3
    have c3b1 : (t300 != 0) = false := bne_eq_false_iff_eq.mpr c3
    clear c3
    replace H := Option.bind_eq_some_iff.mp H
    obtain ⟨t301, A40, H⟩ := H
    replace H : (if (t301.size : Int) > 65536 then (some ((⟨#[]⟩ : ByteArray), 2)) else (some (t301, 0))) = some (r1, r2) := H
    have A4 := Aside0.mk A40
    clear A40
    by_cases c5 : (t301.size : Int) > 65536
    · rw [if_pos c5] at H
      have c5b0 : decide (65536 < (t301.size : Int)) = true := decide_eq_true c5
      have c5b1 : decide (65536 < t301.size) = true := decide_eq_true (by omega)
      clear c5
      simp only [Option.some.injEq, Prod.mk.injEq] at H
      obtain ⟨rfl, rfl⟩ := H
      go_enter Try.func24, Try.ntmps24
      go_wp2_with (first | ((with_reducible refine gate_callee (f := 26) rfl ?_); refine goesL_ (some 7) rfl rfl Try.func26 (by kernel_rfl) rfl #[.slice A0 l0.length c0] rfl (by (try simp only [List.map_toArray, List.map_cons, List.map_nil]); first | done | rfl | (simp only [List.length_drop, List.length_take]; rfl)) ?_; (with_reducible refine (gongref10_Check.calls k _ _ l0 t300 _ ?side1 ?side2 A2.out).mono ?_); (case side1 => repeat (first | exact HR0.out | (with_reducible refine Kd.C_alloc ?_ _) | (with_reducible refine Kd.C_drewN ?_ _) | (with_reducible refine Kd.C_drew ?_))); (case side2 => exact HC0.out); rintro e w6 ⟨rfl, hb⟩; refine ⟨_, rfl, ?_⟩; have n0_ := Aside0.mk (below_step (by repeat (first | (with_reducible first | exact HB.out | apply below_alloc | apply pw_below_drewN | apply below_drew1) | exact HB.out)) hb); clear HB; have HB := n0_; clear n0_; (try clear hb); (try clear hb2); (try clear hk); (try clear hi)) | ((with_reducible refine gate_callee (f := 47) rfl ?_); refine goesL_ (some 12) rfl rfl Try.func47 (by kernel_rfl) rfl #[.slice A0 l0.length c0] rfl (by (try simp only [List.map_toArray, List.map_cons, List.map_nil]); first | done | rfl | (simp only [List.length_drop, List.length_take]; rfl)) ?_; (with_reducible refine (gongref10_Put.calls k _ _ l0 t301 _ ?side1 ?side2 A4.out).mono ?_); (case side1 => repeat (first | exact (Kd.C_below HR0.out HB.out) | (with_reducible refine Kd.C_alloc ?_ _) | (with_reducible refine Kd.C_drewN ?_ _) | (with_reducible refine Kd.C_drew ?_))); (case side2 => exact HC0.out); rintro e w' ⟨rfl, ⟨nd, rfl⟩⟩; refine ⟨_, rfl, ?_⟩))
      go_ret2
      exact ⟨by first | rfl | (simp [errW_none, errW_some] <;> rfl) | (simp [*, errW_none, errW_some] <;> rfl), by repeat (first | (with_reducible first | exact HB.out | apply below_alloc | apply pw_below_drewN | apply below_drew1) | exact HB.out)⟩
    · rw [if_neg c5] at H
      have c5b0 : decide (65536 < (t301.size : Int)) = false := decide_eq_false c5
      have c5b1 : decide (65536 < t301.size) = false := decide_eq_false (by omega)
      clear c5
      simp only [Option.some.injEq, Prod.mk.injEq] at H
      obtain ⟨rfl, rfl⟩ := H
      go_enter Try.func24, Try.ntmps24
      go_wp2_with (first | ((with_reducible refine gate_callee (f := 26) rfl ?_); refine goesL_ (some 7) rfl rfl Try.func26 (by kernel_rfl) rfl #[.slice A0 l0.length c0] rfl (by (try simp only [List.map_toArray, List.map_cons, List.map_nil]); first | done | rfl | (simp only [List.length_drop, List.length_take]; rfl)) ?_; (with_reducible refine (gongref10_Check.calls k _ _ l0 t300 _ ?side1 ?side2 A2.out).mono ?_); (case side1 => repeat (first | exact HR0.out | (with_reducible refine Kd.C_alloc ?_ _) | (with_reducible refine Kd.C_drewN ?_ _) | (with_reducible refine Kd.C_drew ?_))); (case side2 => exact HC0.out); rintro e w7 ⟨rfl, hb⟩; refine ⟨_, rfl, ?_⟩; have n0_ := Aside0.mk (below_step (by repeat (first | (with_reducible first | exact HB.out | apply below_alloc | apply pw_below_drewN | apply below_drew1) | exact HB.out)) hb); clear HB; have HB := n0_; clear n0_; (try clear hb); (try clear hb2); (try clear hk); (try clear hi)) | ((with_reducible refine gate_callee (f := 47) rfl ?_); refine goesL_ (some 12) rfl rfl Try.func47 (by kernel_rfl) rfl #[.slice A0 l0.length c0] rfl (by (try simp only [List.map_toArray, List.map_cons, List.map_nil]); first | done | rfl | (simp only [List.length_drop, List.length_take]; rfl)) ?_; (with_reducible refine (gongref10_Put.calls k _ _ l0 t301 _ ?side1 ?side2 A4.out).mono ?_); (case side1 => repeat (first | exact (Kd.C_below HR0.out HB.out) | (with_reducible refine Kd.C_alloc ?_ _) | (with_reducible refine Kd.C_drewN ?_ _) | (with_reducible refine Kd.C_drew ?_))); (case side2 => exact HC0.out); rintro e w' ⟨rfl, ⟨nd, rfl⟩⟩; refine ⟨_, rfl, ?_⟩))
      go_ret2
      exact ⟨by first | rfl | (simp [errW_none, errW_some] <;> rfl) | (simp [*, errW_none, errW_some] <;> rfl), by repeat (first | (with_reducible first | exact HB.out | apply below_alloc | apply pw_below_drewN | apply below_drew1) | exact HB.out)⟩
  · rw [if_neg c3] at H
    have c3b0 : (t300 == 0) = false := beq_eq_false_iff_ne.mpr c3
    have c3b1 : (t300 != 0) = true := bne_iff_ne.mpr c3
    simp only [Option.some.injEq, Prod.mk.injEq] at H
    obtain ⟨rfl, rfl⟩ := H
    go_enter Try.func24, Try.ntmps24
    go_wp2_with (first | ((with_reducible refine gate_callee (f := 26) rfl ?_); refine goesL_ (some 7) rfl rfl Try.func26 (by kernel_rfl) rfl #[.slice A0 l0.length c0] rfl (by (try simp only [List.map_toArray, List.map_cons, List.map_nil]); first | done | rfl | (simp only [List.length_drop, List.length_take]; rfl)) ?_; (with_reducible refine (gongref10_Check.calls k _ _ l0 t300 _ ?side1 ?side2 A2.out).mono ?_); (case side1 => repeat (first | exact HR0.out | (with_reducible refine Kd.C_alloc ?_ _) | (with_reducible refine Kd.C_drewN ?_ _) | (with_reducible refine Kd.C_drew ?_))); (case side2 => exact HC0.out); rintro e w8 ⟨rfl, hb⟩; refine ⟨_, rfl, ?_⟩; have n0_ := Aside0.mk (below_step (by repeat (first | (with_reducible first | exact HB.out | apply below_alloc | apply pw_below_drewN | apply below_drew1) | exact HB.out)) hb); clear HB; have HB := n0_; clear n0_; (try clear hb); (try clear hb2); (try clear hk); (try clear hi)))
    go_ret2
    exact ⟨by first | rfl | (simp [errW_none, errW_some] <;> rfl) | (simp [*, errW_none, errW_some] <;> rfl), by repeat (first | (with_reducible first | exact HB.out | apply below_alloc | apply pw_below_drewN | apply below_drew1) | exact HB.out)⟩

end Go.Proofs.Ytgopphglkjdcaaa.Px
end
/-! KQWalk -/
section
/- The walk of the law QuoteWrites: two names in an array by value. -/
namespace Go.Proofs.Ytgopphglkjdcaaa.Px
open Go.RowKit Go.Proofs.YtgopphglkjdcaaaW.PrintWords Go.Proofs.YtgopphglkjdcaaaW.PrintLast Go.Proofs.YtgopphglkjdcaaaW.PrintMore
attribute [local go_sem] max2_int min2_int max_two min_two max_three min_three max_four min_four
set_option linter.unusedVariables false
set_option linter.unusedSimpArgs false
def gonglaw10_QuoteWrites.f (k : Nat) (l0 l1 : List S35) (x : ByteArray × ByteArray) : Option Bool :=
  (gonglaw10_small.f k l0).bind fun s0 => if s0 = false then gonglaw10_works.f k else (gonglaw10_small.f k l1).bind fun s1 => if s1 = false then gonglaw10_works.f k else
  (gonglaw10_copied.f k l0).bind fun own => (quote_Print.f k own).bind fun a => (gongref10_Print.f k l0).bind fun b => (quote_Get.f own x.1 x.2).bind fun v => (gongref10_Get.f k l0 x.1 x.2).bind fun u =>
  (quote_Check.f k own).bind fun c1 => (gongref10_Check.f k l0).bind fun c2 => (quote_Same.f k own l1).bind fun s2 => (gongref10_Same.f k l0 l1).bind fun s3 => (gongref10_Same.f k own l0).bind fun s4 => (gonglaw10_works.f k).bind fun t =>
  if a = b ∧ v = u ∧ c1 = c2 ∧ s2 = s3 ∧ s4 = true ∧ t = true then some true else none
set_option maxHeartbeats 8000000 in
set_option maxRecDepth 100000 in
theorem gonglaw10_QuoteWrites.calls (A0 : Option Addr) (c0 : Nat) (l0 : List S35) (A1 : Option Addr) (c1 : Nat) (l1 : List S35) (cs : Array Value) (x : ByteArray × ByteArray) (r : Bool) (w : World) (hr0 : Kd.C k35 w A0 l0.length l0) (hc0 : l0.length ≤ c0) (hr1 : Kd.C k35 w A1 l1.length l1) (hc1 : l1.length ≤ c1) (hx : (Kd.pair Kd.string Kd.string).K w x cs.toList) (h : ∃ k, gonglaw10_QuoteWrites.f k l0 l1 x = some r) :
    Calls Try.prog 6 #[.slice A0 l0.length c0, .slice A1 l1.length c1, .agg cs] w fun e w' => e = .returned (.bool r) ∧ Below w.heap.size w w' := by
  obtain ⟨k, h⟩ := h
  obtain ⟨x1, x2⟩ := x
  obtain rfl : cs = #[.string x1, .string x2] := by
    obtain ⟨d1, d2, he, hd1, hd2⟩ := hx
    have e1 : d1 = [.string x1] := hd1
    have e2 : d2 = [.string x2] := hd2
    rw [e1, e2] at he
    exact Array.toList_inj.mp he
  clear hx
  unfold gonglaw10_QuoteWrites.f at h
  simp only at h
  obtain ⟨s0, hs0, h⟩ := Option.bind_eq_some_iff.mp h
  have HS0 := Lib.hid hs0
  clear hs0
  have hg := heap_alloc_new w (Obj.cells #[.string x1, .string x2] 43)
  have R0 := Aside0.mk (Kd.C_alloc hr0 (Obj.cells #[.string x1, .string x2] 43))
  have R1 := Aside0.mk (Kd.C_alloc hr1 (Obj.cells #[.string x1, .string x2] 43))
  have B0 := Aside0.mk (below_alloc (Below.refl w.heap.size w) (Obj.cells #[.string x1, .string x2] 43))
  have G0 := Aside0.mk hg
  clear hg hr0 hr1
  go_enter Try.func6, Try.ntmps6
  go_upto_region 1 with fail
  generalize hg0 : w.heap.size = g at G0 ⊢
  generalize w.alloc (Obj.cells #[.string x1, .string x2] 43) = W0 at R0 R1 B0 G0 ⊢
  cases s0 with
  | false =>
    rw [if_pos rfl] at h
    have HT := Lib.hid h
    clear h
    go_wp2_with (first | (go_at_call_of 16 c0; refine (gonglaw10_small.calls k A0 c0 l0 false _ R0.out hc0 HS0.out).mono ?_; rintro e W1 ⟨rfl, ⟨nd, rfl⟩⟩))
    refine (gonglaw10_works.calls k r _ HT.out).mono ?_
    rintro e W2 ⟨rfl, hb⟩
    have B2 := Aside0.mk ((pw_below_drewN B0.out nd).trans (hb.mono (pw_below_drewN B0.out nd).size))
    clear hb
    go_wp2_with fail
    go_ret
    exact ⟨rfl, B2.out⟩
  | true =>
  rw [if_neg (by simp)] at h
  obtain ⟨s1, hs1, h⟩ := Option.bind_eq_some_iff.mp h
  have HS1 := Lib.hid hs1
  clear hs1
  cases s1 with
  | false =>
    rw [if_pos rfl] at h
    have HT := Lib.hid h
    clear h
    go_wp2_with (first | (go_at_call_of 16 c0; refine (gonglaw10_small.calls k A0 c0 l0 true _ R0.out hc0 HS0.out).mono ?_; rintro e W1 ⟨rfl, ⟨nd, rfl⟩⟩) | (go_at_call_of 16 c1; refine (gonglaw10_small.calls k A1 c1 l1 false _ (Kd.C_drewN R1.out nd) hc1 HS1.out).mono ?_; rintro e W1 ⟨rfl, ⟨nd2, rfl⟩⟩))
    refine (gonglaw10_works.calls k r _ HT.out).mono ?_
    rintro e W2 ⟨rfl, hb⟩
    have B2 := Aside0.mk ((pw_below_drewN B0.out (nd + nd2)).trans (hb.mono (pw_below_drewN B0.out (nd + nd2)).size))
    clear hb
    go_wp2_with fail
    go_ret
    exact ⟨rfl, B2.out⟩
  | true =>
  rw [if_neg (by simp)] at h
  obtain ⟨own, hown, h⟩ := Option.bind_eq_some_iff.mp h
  obtain ⟨⟨a1, a2⟩, ha, h⟩ := Option.bind_eq_some_iff.mp h
  obtain ⟨⟨b1, b2⟩, hb, h⟩ := Option.bind_eq_some_iff.mp h
  obtain ⟨⟨v1, v2⟩, hv, h⟩ := Option.bind_eq_some_iff.mp h
  obtain ⟨⟨u1, u2⟩, hu, h⟩ := Option.bind_eq_some_iff.mp h
  obtain ⟨e1, he1, h⟩ := Option.bind_eq_some_iff.mp h
  obtain ⟨e2, he2, h⟩ := Option.bind_eq_some_iff.mp h
  obtain ⟨m2, hm2, h⟩ := Option.bind_eq_some_iff.mp h
  obtain ⟨m3, hm3, h⟩ := Option.bind_eq_some_iff.mp h
  obtain ⟨m4, hm4, h⟩ := Option.bind_eq_some_iff.mp h
  obtain ⟨t, ht, h⟩ := Option.bind_eq_some_iff.mp h
  by_cases hall : (a1, a2) = (b1, b2) ∧ (v1, v2) = (u1, u2) ∧ e1 = e2 ∧ m2 = m3 ∧ m4 = true ∧ t = true
  case neg => rw [if_neg hall] at h; cases h
  rw [if_pos hall] at h
  injection h with h
  subst h
  obtain ⟨q1, q2, rfl, rfl, rfl, rfl⟩ := hall
  injection q1 with q11 q12
  injection q2 with q21 q22
  subst q11
  subst q12
  subst q21
  subst q22
  have HO := Lib.hid hown
  have HA := Lib.hid ha
  have HB := Lib.hid hb
  have HV := Lib.hid hv
  have HU := Lib.hid hu
  have HE1 := Lib.hid he1
  have HE2 := Lib.hid he2
  have HM2 := Lib.hid hm2
  have HM3 := Lib.hid hm3
  have HM4 := Lib.hid hm4
  have HT := Lib.hid ht
  clear hown ha hb hv hu he1 he2 hm2 hm3 hm4 ht
  go_upto_region 3 with (first | (go_at_call_of 16 c0; refine (gonglaw10_small.calls k A0 c0 l0 true _ R0.out hc0 HS0.out).mono ?_; rintro e W1 ⟨rfl, ⟨nd, rfl⟩⟩) | (go_at_call_of 16 c1; refine (gonglaw10_small.calls k A1 c1 l1 true _ (Kd.C_drewN R1.out nd) hc1 HS1.out).mono ?_; rintro e W1 ⟨rfl, ⟨nd2, rfl⟩⟩))
  have B1 := Aside0.mk (pw_below_drewN B0.out (nd + nd2))
  have L1 := Aside0.mk (Kd.C_drewN R0.out (nd + nd2))
  have K1 := Aside0.mk (Kd.C_drewN R1.out (nd + nd2))
  have G1 := Aside0.mk (blk_drewN G0.out (nd + nd2))
  clear B0 R0 R1 G0 HS0 HS1
  generalize W0.drewN (nd + nd2) = W1 at B1 L1 K1 G1 ⊢
  go_upto_region 4 with (first | (go_at_call 23; refine (gonglaw10_copied.calls k A0 c0 l0 own _ L1.out hc0 HO.out).mono ?_; rintro e W2 ⟨vo, rfl, ho2, hb2⟩; have O2 := Aside0.mk ho2; have B2 := Aside0.mk (B1.out.trans (hb2.mono B1.out.size)); have L2 := Aside0.mk (Kd.C_below L1.out hb2); have K2 := Aside0.mk (Kd.C_below K1.out hb2); have G2 := Aside0.mk ((hb2.block g (blk_lt G1.out)).trans G1.out); clear ho2 hb2))
  obtain ⟨Ao, co, eo⟩ := Kd.S_slice O2.out
  subst eo
  have C2 := Aside0.mk (Kd.S_reads' O2.out).2.2
  have hco := (Kd.S_reads' O2.out).2.1
  clear O2 B1 L1 K1 G1 HO
  go_upto_region 5 with (first | (go_at_call 19; refine (quote_Print.calls k Ao co own a1 a2 _ C2.out hco HA.out).mono ?_; rintro e W3 ⟨rfl, hb3⟩; have B3 := Aside0.mk (B2.out.trans (hb3.mono B2.out.size)); have L3 := Aside0.mk (Kd.C_below L2.out hb3); have K3 := Aside0.mk (Kd.C_below K2.out hb3); have C3 := Aside0.mk (Kd.C_below C2.out hb3); have G3 := Aside0.mk ((hb3.block g (blk_lt G2.out)).trans G2.out); clear hb3))
  clear B2 L2 K2 C2 G2 HA
  go_upto_region 6 with (first | (go_at_call 24; refine (gongref10_Print.calls k A0 c0 l0 a1 a2 _ L3.out hc0 HB.out).mono ?_; rintro e W4 ⟨rfl, hb4⟩; have B4 := Aside0.mk (B3.out.trans (hb4.mono B3.out.size)); have L4 := Aside0.mk (Kd.C_below L3.out hb4); have K4 := Aside0.mk (Kd.C_below K3.out hb4); have C4 := Aside0.mk (Kd.C_below C3.out hb4); have G4 := Aside0.mk ((hb4.block g (blk_lt G3.out)).trans G3.out); clear hb4))
  clear B3 L3 K3 C3 G3 HB
  have d0 := Lib.cell_of_heap G4.out 0
  have d1 := Lib.cell_of_heap G4.out 1
  go_upto_region 7 with (first | (go_at_call 17; refine (quote_Get.calls Ao co own x1 x2 v1 v2 _ C4.out hco HV.out).mono ?_; rintro e W5 ⟨rfl, hb5⟩; have B5 := Aside0.mk (B4.out.trans (hb5.mono B4.out.size)); have L5 := Aside0.mk (Kd.C_below L4.out hb5); have K5 := Aside0.mk (Kd.C_below K4.out hb5); have C5 := Aside0.mk (Kd.C_below C4.out hb5); have G5 := Aside0.mk ((hb5.block g (blk_lt G4.out)).trans G4.out); clear hb5))
  clear B4 L4 K4 C4 G4 HV d0 d1
  have d0 := Lib.cell_of_heap G5.out 0
  have d1 := Lib.cell_of_heap G5.out 1
  go_upto_region 8 with (first | (go_at_call 25; refine (gongref10_Get.calls k A0 c0 l0 x1 x2 v1 v2 _ L5.out hc0 HU.out).mono ?_; rintro e W6 ⟨rfl, ⟨nd6, rfl⟩⟩))
  have B6 := Aside0.mk (pw_below_drewN B5.out nd6)
  have L6 := Aside0.mk (Kd.C_drewN L5.out nd6)
  have K6 := Aside0.mk (Kd.C_drewN K5.out nd6)
  have C6 := Aside0.mk (Kd.C_drewN C5.out nd6)
  clear B5 L5 K5 C5 G5 HU d0 d1
  generalize W5.drewN nd6 = W6 at B6 L6 K6 C6 ⊢
  go_wp2_with fail
  refine (quote_Check.calls k Ao co own e1 _ C6.out hco HE1.out).mono ?_
  rintro e W7 ⟨rfl, hb7⟩
  have B7 := Aside0.mk (B6.out.trans (hb7.mono B6.out.size))
  have L7 := Aside0.mk (Kd.C_below L6.out hb7)
  have K7 := Aside0.mk (Kd.C_below K6.out hb7)
  have C7 := Aside0.mk (Kd.C_below C6.out hb7)
  clear B6 L6 K6 C6 hb7 HE1
  go_wp2_with fail
  refine (gongref10_Check.calls k A0 c0 l0 e1 _ L7.out hc0 HE2.out).mono ?_
  rintro e W8 ⟨rfl, hb8⟩
  have B8 := Aside0.mk (B7.out.trans (hb8.mono B7.out.size))
  have L8 := Aside0.mk (Kd.C_below L7.out hb8)
  have K8 := Aside0.mk (Kd.C_below K7.out hb8)
  have C8 := Aside0.mk (Kd.C_below C7.out hb8)
  clear B7 L7 K7 C7 hb8 HE2
  go_wp2_with fail
  refine (quote_Same.calls k Ao co own A1 c1 l1 m2 _ C8.out hco K8.out hc1 HM2.out).mono ?_
  rintro e W9 ⟨rfl, hb9⟩
  have B9 := Aside0.mk (B8.out.trans (hb9.mono B8.out.size))
  have L9 := Aside0.mk (Kd.C_below L8.out hb9)
  have K9 := Aside0.mk (Kd.C_below K8.out hb9)
  have C9 := Aside0.mk (Kd.C_below C8.out hb9)
  clear B8 L8 K8 C8 hb9 HM2
  go_wp2_with fail
  refine (gongref10_Same.calls k A0 c0 l0 A1 c1 l1 m2 _ L9.out hc0 K9.out hc1 HM3.out).mono ?_
  rintro e Wa ⟨rfl, ⟨nda, rfl⟩⟩
  have Ba := Aside0.mk (pw_below_drewN B9.out nda)
  have La := Aside0.mk (Kd.C_drewN L9.out nda)
  have Ca := Aside0.mk (Kd.C_drewN C9.out nda)
  clear B9 L9 K9 C9 HM3
  generalize W9.drewN nda = Wa at Ba La Ca ⊢
  cases m2 with
  | true =>
    go_wp2_with fail
    refine (gongref10_Same.calls k Ao co own A0 c0 l0 true _ Ca.out hco La.out hc0 HM4.out).mono ?_
    rintro e Wb ⟨rfl, ⟨ndb, rfl⟩⟩
    have Bb := Aside0.mk (pw_below_drewN Ba.out ndb)
    clear Ba La Ca HM4
    generalize Wa.drewN ndb = Wb at Bb ⊢
    go_wp2_with fail
    refine (gonglaw10_works.calls k true _ HT.out).mono ?_
    rintro e Wc ⟨rfl, hbc⟩
    have Bc := Aside0.mk (Bb.out.trans (hbc.mono Bb.out.size))
    clear hbc Bb
    go_wp2_with fail
    go_ret
    exact ⟨rfl, Bc.out⟩
  | false =>
    go_wp2_with fail
    refine (gongref10_Same.calls k Ao co own A0 c0 l0 true _ Ca.out hco La.out hc0 HM4.out).mono ?_
    rintro e Wb ⟨rfl, ⟨ndb, rfl⟩⟩
    have Bb := Aside0.mk (pw_below_drewN Ba.out ndb)
    clear Ba La Ca HM4
    generalize Wa.drewN ndb = Wb at Bb ⊢
    go_wp2_with fail
    refine (gonglaw10_works.calls k true _ HT.out).mono ?_
    rintro e Wc ⟨rfl, hbc⟩
    have Bc := Aside0.mk (Bb.out.trans (hbc.mono Bb.out.size))
    clear hbc Bb
    go_wp2_with fail
    go_ret
    exact ⟨rfl, Bc.out⟩
end Go.Proofs.Ytgopphglkjdcaaa.Px
end
/-! Pre -/
section
/- strings.HasPrefix and strings.CutPrefix over lists. -/
namespace Go.Proofs.Ytgopphglkjdcaaa.Pre
open Go Go.RowKit Go.Proofs.Ytgopphglkjdcaaa.Px Go.Proofs.YtgopphglkjdcaaaW.PrintWords Go.Proofs.Ytgopphglkjdcaaa.Str
theorem take_short {a b : List UInt8} (h : a.length < b.length) : ¬ a.take b.length = b := by
  intro z
  have := congrArg List.length z
  rw [List.length_take] at this
  omega
theorem lite_f (a b : ByteArray) : stringslite_HasPrefix.f a b = some (decide (a.data.toList.take b.data.toList.length = b.data.toList)) := by
  unfold stringslite_HasPrefix.f
  by_cases h : b.size ≤ a.size
  · rw [if_pos (by omega), if_pos (by omega), if_pos (by omega), toList_L, toList_L, pre_L, Int.toNat_natCast, ← size_L]
    congr 1
    rw [Bool.eq_iff_iff, beq_iff_eq, decide_eq_true_eq]
  · rw [if_neg (by omega), decide_eq_false (take_short (by rw [← size_L, ← size_L]; omega))]
theorem has_f (a b : ByteArray) : strings_HasPrefix.f a b = some (decide (a.data.toList.take b.data.toList.length = b.data.toList)) := by
  unfold strings_HasPrefix.f
  rw [lite_f]
  rfl
def cutR (l p : List UInt8) : ByteArray × Bool := if l.take p.length = p then (ofL (l.drop p.length), true) else (ofL l, false)
theorem cutLite_f (a b : ByteArray) : stringslite_CutPrefix.f a b = some (cutR a.data.toList b.data.toList) := by
  unfold stringslite_CutPrefix.f cutR
  rw [lite_f]
  simp only [Option.bind_some, decide_eq_true_eq]
  by_cases h : a.data.toList.take b.data.toList.length = b.data.toList
  · have hl := congrArg List.length h
    rw [List.length_take, ← size_L, ← size_L] at hl
    rw [if_pos h, if_pos h, if_pos (by omega), if_pos (by omega)]
    congr 2
    apply ext
    rw [post_L, ofL_L, Int.toNat_natCast, size_L]
  · rw [if_neg h, if_neg h, ofL_of]
theorem cut_f (a b : ByteArray) : strings_CutPrefix.f a b = some (cutR a.data.toList b.data.toList) := by
  unfold strings_CutPrefix.f
  rw [cutLite_f]
  rfl
end Go.Proofs.Ytgopphglkjdcaaa.Pre
end
/-! Qt -/
section
/- Quoted data over lists of bytes: names, values, escapes, elements; and the scanner's small steps. -/
namespace Go.Proofs.Ytgopphglkjdcaaa.Qt
open Go Go.RowKit Go.Proofs.Ytgopphglkjdcaaa.Px Go.Proofs.YtgopphglkjdcaaaW.PrintWords Go.Proofs.Ytgopphglkjdcaaa.Str
def stp (b : UInt8) : Bool := decide (b.toNat = 32 ∨ b.toNat = 61 ∨ b.toNat = 93 ∨ b.toNat = 34)
def nmA (l : List UInt8) : List UInt8 := l.takeWhile (fun b => !stp b)
def nmB (l : List UInt8) : List UInt8 := l.dropWhile (fun b => !stp b)
def sp (b : UInt8) : Bool := decide (b.toNat = 34 ∨ b.toNat = 93 ∨ b.toNat = 92)
def one (b : UInt8) : List UInt8 := if sp b = true then [92, b] else [b]
def esc (l : List UInt8) : List UInt8 := l.flatMap one
def cons1 (c : UInt8) (x : List UInt8 × List UInt8) : List UInt8 × List UInt8 := (c :: x.1, x.2)
def val : List UInt8 → Option (List UInt8 × List UInt8)
  | [] => none
  | [b] => if b.toNat = 34 then some ([], [b]) else none
  | b :: c :: r => if b.toNat = 34 then some ([], b :: c :: r) else if b.toNat = 93 then none else if b.toNat = 92 ∧ sp c = true then (val r).map (cons1 c) else (val (c :: r)).map (cons1 b)
theorem nm_app (l : List UInt8) : nmA l ++ nmB l = l := List.takeWhile_append_dropWhile
theorem nmB_len (l : List UInt8) : (nmB l).length ≤ l.length := by
  have := congrArg List.length (nm_app l)
  rw [List.length_append] at this
  omega
theorem nmA_len (l : List UInt8) : (nmA l).length ≤ l.length := by
  have := congrArg List.length (nm_app l)
  rw [List.length_append] at this
  omega
theorem nmB_drop (l : List UInt8) : nmB l = l.drop (nmA l).length := by
  have h := nm_app l
  calc nmB l = (nmA l ++ nmB l).drop (nmA l).length := by rw [List.drop_left]
    _ = _ := by rw [h]
theorem nmA_take (l : List UInt8) : nmA l = l.take (nmA l).length := by
  have h := nm_app l
  calc nmA l = (nmA l ++ nmB l).take (nmA l).length := by rw [List.take_left]
    _ = _ := by rw [h]
theorem val_len : ∀ (l : List UInt8) {v q : List UInt8}, val l = some (v, q) → v.length + q.length ≤ l.length ∧ q.head? = some 34
  | [], v, q, h => by simp [val] at h
  | [b], v, q, h => by
    rw [val] at h
    split at h
    · rename_i hb
      injection h with h
      injection h with h1 h2
      subst h1
      subst h2
      refine ⟨by simp, ?_⟩
      have : b = 34 := UInt8.toNat_inj.mp hb
      rw [this]; rfl
    · cases h
  | b :: c :: r, v, q, h => by
    rw [val] at h
    split at h
    · rename_i hb
      injection h with h
      injection h with h1 h2
      subst h1
      subst h2
      refine ⟨by simp, ?_⟩
      have : b = 34 := UInt8.toNat_inj.mp hb
      rw [this]; rfl
    · split at h
      · cases h
      · split at h
        · obtain ⟨⟨v', q'⟩, hv, h⟩ := Option.map_eq_some_iff.mp h
          injection h with h1 h2
          have := val_len r hv
          subst h1
          subst h2
          simp only [List.length_cons]
          exact ⟨by omega, this.2⟩
        · obtain ⟨⟨v', q'⟩, hv, h⟩ := Option.map_eq_some_iff.mp h
          injection h with h1 h2
          have := val_len (c :: r) hv
          subst h1
          subst h2
          simp only [List.length_cons] at this ⊢
          exact ⟨by omega, this.2⟩
theorem sp_byte {b : UInt8} : sp b = true ↔ b.toNat = 34 ∨ b.toNat = 93 ∨ b.toNat = 92 := by simp [sp]
/-- What is escaped is told as it was. -/
theorem val_esc (l : List UInt8) (r : List UInt8) : val (esc l ++ 34 :: r) = some (l, 34 :: r) := by
  induction l with
  | nil =>
    show val (34 :: r) = _
    cases r with
    | nil => rfl
    | cons c r => rw [val]; exact if_pos rfl
  | cons b l ih =>
    have e : esc (b :: l) ++ 34 :: r = one b ++ (esc l ++ 34 :: r) := by unfold esc; rw [List.flatMap_cons, List.append_assoc]
    rw [e]
    unfold one
    by_cases hb : sp b = true
    · rw [if_pos hb]
      show val (92 :: b :: (esc l ++ 34 :: r)) = _
      rw [val, if_neg (by decide), if_neg (by decide), if_pos ⟨rfl, hb⟩, ih]
      rfl
    · rw [if_neg hb]
      have h3 : ¬ (b.toNat = 34 ∨ b.toNat = 93 ∨ b.toNat = 92) := fun z => hb (sp_byte.mpr z)
      obtain ⟨c, t, ht⟩ : ∃ c t, esc l ++ 34 :: r = c :: t := by
        cases hh : esc l ++ 34 :: r with
        | nil => simp at hh
        | cons c t => exact ⟨c, t, rfl⟩
      rw [ht] at ih ⊢
      show val (b :: c :: t) = _
      rw [val, if_neg (by omega), if_neg (by omega), if_neg (by omega), ih]
      rfl
/-- A byte that ends no name. -/
theorem nm_stop {p : List UInt8} (hp : ∀ b ∈ p, stp b = false) {c : UInt8} (hc : stp c = true) (r : List UInt8) : nmA (p ++ c :: r) = p ∧ nmB (p ++ c :: r) = c :: r := by
  unfold nmA nmB
  induction p with
  | nil =>
    rw [List.nil_append, List.takeWhile_cons, List.dropWhile_cons]
    simp [hc]
  | cons b p ih =>
    have hb := hp b List.mem_cons_self
    have ih := ih (fun x hx => hp x (List.mem_cons_of_mem b hx))
    rw [List.cons_append, List.takeWhile_cons, List.dropWhile_cons]
    simp [hb, ih]
-- ---- the program's small steps
theorem take_f (s : ByteArray) (b : Bool) (p : ByteArray) : quote_scanner_take.f s b p = some ((if s.data.toList.take p.data.toList.length = p.data.toList then ofL (s.data.toList.drop p.data.toList.length) else s), b || !(decide (s.data.toList.take p.data.toList.length = p.data.toList))) := by
  unfold quote_scanner_take.f
  rw [Pre.cut_f]
  unfold Pre.cutR
  by_cases h : s.data.toList.take p.data.toList.length = p.data.toList
  · rw [if_pos h, if_pos h, decide_eq_true h]; rfl
  · rw [if_neg h, if_neg h, decide_eq_false h, ofL_of]; rfl
theorem take_yes {s p : ByteArray} {r : List UInt8} (b : Bool) (h : s.data.toList = p.data.toList ++ r) : quote_scanner_take.f s b p = some (ofL r, b) := by
  rw [take_f, h, List.take_left, if_pos rfl, List.drop_left]
  simp
theorem take_no {s p : ByteArray} (b : Bool) (h : ¬ s.data.toList.take p.data.toList.length = p.data.toList) : quote_scanner_take.f s b p = some (s, true) := by
  rw [take_f, if_neg h, decide_eq_false h]
  simp
theorem take_bad (s p : ByteArray) : ∃ r : ByteArray, r.size ≤ s.size ∧ quote_scanner_take.f s true p = some (r, true) := by
  rw [take_f]
  split
  · exact ⟨_, by rw [ofL_size, List.length_drop, size_L]; omega, rfl⟩
  · exact ⟨_, Nat.le_refl _, rfl⟩
theorem at_f (s p : ByteArray) : quote_scanner_at.f s false p = some (decide (s.data.toList.take p.data.toList.length = p.data.toList), s, false) := by
  unfold quote_scanner_at.f
  rw [if_neg (by simp), Pre.has_f]
  rfl
theorem at_bad (s p : ByteArray) : quote_scanner_at.f s true p = some (false, s, true) := by
  unfold quote_scanner_at.f
  rw [if_pos rfl]
theorem stops_has (b : UInt8) : Idx.stops.data.toList.contains b = stp b := by
  unfold stp
  rw [Bool.eq_iff_iff, decide_eq_true_eq]
  show [32, 61, 93, 34].contains b = true ↔ _
  simp only [List.contains_cons, List.contains_nil, Bool.or_false, Bool.or_eq_true, beq_iff_eq, ← UInt8.toNat_inj]
  rfl
theorem index_f (l : List UInt8) : Lib.indexAny l Idx.stops.data.toList = if nmB l = [] then -1 else ((nmA l).length : Int) := by
  induction l with
  | nil => rfl
  | cons b l ih =>
    rw [Lib.indexAny, stops_has, ih]
    unfold nmA nmB
    rw [List.takeWhile_cons, List.dropWhile_cons]
    by_cases hb : stp b = true
    · simp [hb]
    · have hb : stp b = false := by simpa using hb
      simp only [hb, Bool.false_eq_true, if_false, Bool.not_false, if_true]
      by_cases hn : l.dropWhile (fun b => !stp b) = []
      · rw [if_pos hn, if_pos hn]
        rfl
      · rw [if_neg hn, if_neg hn, if_neg (by rw [beq_iff_eq]; omega), List.length_cons]
        push_cast
        rfl
theorem name_f (s : ByteArray) (b : Bool) (hs : s.size ≤ 1073741824) : quote_scanner_name.f s b = some (ofL (nmA s.data.toList), ofL (nmB s.data.toList), b) := by
  unfold quote_scanner_name.f strings_IndexAny.f
  rw [if_pos ⟨rfl, hs⟩, index_f]
  have hl := nm_app s.data.toList
  by_cases hn : nmB s.data.toList = []
  · rw [if_pos hn]
    have e : nmA s.data.toList = s.data.toList := by rw [hn, List.append_nil] at hl; exact hl
    simp only [Option.bind_some]
    rw [if_pos (by omega), hn, e]
    congr 2
    · exact ext (by rw [pre_L, ofL_L, size_L, List.take_length])
    · congr 1
      exact ext (by rw [post_L, ofL_L, size_L, List.drop_length])
  · rw [if_neg hn]
    simp only [Option.bind_some]
    have := nmA_len s.data.toList
    rw [if_neg (by omega), if_pos (by rw [size_L]; omega), Int.toNat_natCast]
    congr 2
    · exact ext (by rw [pre_L, ofL_L, ← nmA_take])
    · congr 1
      exact ext (by rw [post_L, ofL_L, ← nmB_drop])
theorem val_step (b : UInt8) (t : List UInt8) : val (b :: t) = if b.toNat = 34 then some ([], b :: t) else if b.toNat = 93 then none else match t with
    | c :: r => if b.toNat = 92 ∧ sp c = true then (val r).map (cons1 c) else (val t).map (cons1 b)
    | [] => none := by
  cases t with
  | nil => by_cases h : b.toNat = 34 <;> simp [val, h]
  | cons c r => rw [val]
theorem getD_drop (l : List UInt8) (i : Nat) (h : i < l.length) : l.drop i = l.getD i 0 :: l.drop (i + 1) := by
  rw [List.drop_eq_getElem_cons h, List.getD_eq_getElem?_getD, List.getElem?_eq_getElem h, Option.getD_some]
theorem sp_f (b : UInt8) : quote_scanner_value.sp (b.toNat : Int) = sp b := by
  unfold quote_scanner_value.sp sp
  rw [Bool.eq_iff_iff, decide_eq_true_eq, decide_eq_true_eq]
  omega
def told (s : ByteArray) (acc : List UInt8) (x : Option (List UInt8 × List UInt8)) : Option (List UInt8 × Nat) := x.map fun y => (acc ++ y.1, s.size - y.2.length)
theorem told_cons (s : ByteArray) (acc : List UInt8) (c : UInt8) (x : Option (List UInt8 × List UInt8)) : told s (acc ++ [c]) x = told s acc (x.map (cons1 c)) := by
  cases x with
  | none => rfl
  | some y => simp [told, cons1]
theorem value_go (s : ByteArray) (k : Nat) : ∀ (i : Nat) (acc : List UInt8), i ≤ s.size → s.size - i < k → quote_scanner_value.go s k i acc = some (told s acc (val (s.data.toList.drop i))) := by
  induction k with
  | zero => intro i acc h1 h2; omega
  | succ k ih =>
    intro i acc h1 h2
    rw [quote_scanner_value.go]
    by_cases hlt : i < s.size
    case neg =>
      rw [if_neg hlt, List.drop_eq_nil_of_le (by rw [← size_L]; omega)]
      rfl
    rw [if_pos hlt, bt_L hlt, getD_drop _ _ (by rw [← size_L]; exact hlt), val_step, u8_nat]
    generalize s.data.toList.getD i 0 = b
    by_cases h34 : b.toNat = 34
    · rw [if_pos (by omega), if_pos h34]
      simp only [told, Option.map_some, List.append_nil, List.length_cons, List.length_drop, ← size_L]
      congr 3
      omega
    rw [if_neg (by omega), if_neg h34]
    by_cases h93 : b.toNat = 93
    · rw [if_pos (by omega), if_pos h93]
      rfl
    rw [if_neg (by omega), if_neg h93]
    by_cases hlt2 : i + 1 < s.size
    · rw [getD_drop _ _ (by rw [← size_L]; exact hlt2)]
      simp only
      rw [if_pos hlt2, bt_L hlt2, sp_f, u8_nat]
      by_cases h92 : b.toNat = 92
      · rw [if_pos (by omega)]
        by_cases hsp : sp (s.data.toList.getD (i + 1) 0) = true
        · rw [if_pos hsp, if_pos ⟨h92, hsp⟩, ih (i + 2) _ (by omega) (by omega), told_cons]
        · rw [if_neg hsp, if_neg (fun z => hsp z.2), ih (i + 1) _ (by omega) (by omega), told_cons, getD_drop _ (i + 1) (by rw [← size_L]; exact hlt2)]
      · rw [if_neg (by omega), if_neg (fun z => h92 z.1), ih (i + 1) _ (by omega) (by omega), told_cons, getD_drop _ (i + 1) (by rw [← size_L]; exact hlt2)]
    · have hd : s.data.toList.drop (i + 1) = [] := List.drop_eq_nil_of_le (by rw [← size_L]; omega)
      rw [hd]
      simp only
      rw [if_neg hlt2, ih (i + 1) _ (by omega) (by omega), hd]
      split <;> rfl
theorem val_suffix : ∀ (l : List UInt8) {v q : List UInt8}, val l = some (v, q) → q = l.drop (l.length - q.length)
  | [], v, q, h => by simp [val] at h
  | b :: t, v, q, h => by
    rw [val_step] at h
    split at h
    · injection h with h
      injection h with h1 h2
      subst h2
      simp
    · split at h
      · cases h
      · cases t with
        | nil => cases h
        | cons c r =>
          simp only at h
          split at h
          · obtain ⟨⟨v', q'⟩, hv, h⟩ := Option.map_eq_some_iff.mp h
            injection h with h1 h2
            simp only at h2
            subst h2
            have h5 := (val_len r hv).1
            rw [List.length_cons, List.length_cons, show r.length + 1 + 1 - q'.length = (r.length - q'.length) + 1 + 1 by omega, List.drop_succ_cons, List.drop_succ_cons]
            exact val_suffix r hv
          · obtain ⟨⟨v', q'⟩, hv, h⟩ := Option.map_eq_some_iff.mp h
            injection h with h1 h2
            simp only at h2
            subst h2
            have h5 := (val_len (c :: r) hv).1
            rw [List.length_cons, show (c :: r).length + 1 - q'.length = ((c :: r).length - q'.length) + 1 by omega, List.drop_succ_cons]
            exact val_suffix (c :: r) hv
theorem value_f (s : ByteArray) (b : Bool) (hs : s.size ≤ 1073741824) : quote_scanner_value.f s b = some (match val s.data.toList with
    | some (v, q) => (ofL v, ofL q, b)
    | none => (⟨#[]⟩, s, true)) := by
  unfold quote_scanner_value.f
  rw [if_pos hs, value_go s _ 0 [] (by omega) (by omega), List.drop_zero]
  cases h : val s.data.toList with
  | none => rfl
  | some x =>
    obtain ⟨v, q⟩ := x
    have h2 := val_suffix _ h
    have h3 := (val_len _ h).1
    show some ((⟨v.toArray⟩ : ByteArray), s.extract (s.size - q.length) s.size, b) = _
    congr 3
    exact ext (by rw [post_L, ofL_L]; rw [← size_L] at h2; exact h2.symm)
theorem one_eq (b : UInt8) : quote_Escape.one b = one b := by
  unfold quote_Escape.one one
  by_cases h : sp b = true
  · rw [if_pos h, if_pos (by have := sp_byte.mp h; omega)]
  · rw [if_neg h, if_neg (fun z => h (sp_byte.mpr (by omega)))]
theorem escape_f (s : ByteArray) (hs : s.size ≤ 1073741824) : quote_Escape.f s = some (ofL (esc s.data.toList)) := by
  unfold quote_Escape.f
  rw [if_pos hs]
  congr 2
  unfold quote_Escape.all esc
  congr 1
  congr 1
  exact funext one_eq
theorem esc_app (a b : List UInt8) : esc (a ++ b) = esc a ++ esc b := by unfold esc; rw [List.flatMap_append]
theorem one_len (b : UInt8) : (one b).length = 1 + (if sp b = true then 1 else 0) := by unfold one; split <;> rfl
theorem esc_len (l : List UInt8) : l.length ≤ (esc l).length ∧ (esc l).length ≤ 2 * l.length := by
  induction l with
  | nil => exact ⟨Nat.le_refl _, Nat.le_refl _⟩
  | cons b l ih =>
    have e : esc (b :: l) = one b ++ esc l := by unfold esc; rw [List.flatMap_cons]
    rw [e, List.length_append, one_len, List.length_cons]
    split <;> omega
def mayB (b : UInt8) : Bool := decide (33 ≤ b.toNat ∧ b.toNat ≤ 126 ∧ b.toNat ≠ 61 ∧ b.toNat ≠ 93 ∧ b.toNat ≠ 34)
def isName (l : List UInt8) : Bool := l.all mayB && (decide (l ≠ []) && decide (l.length ≤ 32))
theorem may_f (b : UInt8) : quote_mayName.f (b.toNat : Int) = some (mayB b) := by
  unfold quote_mayName.f mayB
  split
  · rw [decide_eq_false (by omega)]
  · split
    · rw [decide_eq_false (by omega)]
    · split
      · rw [decide_eq_false (by omega)]
      · split
        · congr 1
          rw [Bool.eq_iff_iff, decide_eq_true_eq, decide_eq_true_eq]
          omega
        · rw [decide_eq_false (by omega)]
theorem isName_go (l : List UInt8) : quote_IsName.go l = some (l.all mayB) := by
  induction l with
  | nil => rfl
  | cons b l ih =>
    rw [quote_IsName.go, may_f, Option.bind_some, List.all_cons]
    cases mayB b with
    | true => rw [if_pos rfl, ih]; rfl
    | false => rw [if_neg (by simp)]; rfl
theorem isName_f (s : ByteArray) (hs : s.size ≤ 1073741824) : quote_IsName.f s = some (isName s.data.toList) := by
  unfold quote_IsName.f isName
  rw [if_pos hs, isName_go, Option.bind_some, toList_L, size_L]
  congr 3
  rw [Bool.eq_iff_iff, bne_iff_ne, decide_eq_true_eq]
theorem name_free {l : List UInt8} (h : isName l = true) : ∀ b ∈ l, stp b = false := by
  intro b hb
  unfold isName at h
  rw [Bool.and_eq_true, List.all_eq_true] at h
  have := h.1 b hb
  unfold mayB at this
  unfold stp
  rw [decide_eq_true_eq] at this
  exact decide_eq_false (by omega)
end Go.Proofs.Ytgopphglkjdcaaa.Qt
end
/-! Utf -/
section
/- UTF-8 over lists of bytes: a character's bytes, the first character, all characters, what is shown, what is cut. -/
namespace Go.Proofs.Ytgopphglkjdcaaa.Utf
open Go
def isC (c : Nat) : Prop := c ≤ 1114111 ∧ (c < 55296 ∨ 57343 < c)
instance (c : Nat) : Decidable (isC c) := by unfold isC; infer_instance
def encN (c : Nat) : List Nat :=
  if c < 128 then [c] else if c < 2048 then [192 + c / 64, 128 + c % 64]
  else if c < 65536 then [224 + c / 4096, 128 + c / 64 % 64, 128 + c % 64]
  else [240 + c / 262144, 128 + c / 4096 % 64, 128 + c / 64 % 64, 128 + c % 64]
def enc (c : Nat) : List UInt8 := (encN c).map UInt8.ofNat
def decN : List Nat → Option (Nat × Nat)
  | [] => none
  | a :: l =>
    if a < 128 then some (a, 1)
    else if a / 32 = 6 then (match l with
      | b :: _ => if b / 64 = 2 ∧ 128 ≤ a % 32 * 64 + b % 64 then some (a % 32 * 64 + b % 64, 2) else none
      | _ => none)
    else if a / 16 = 14 then (match l with
      | b :: c :: _ => if b / 64 = 2 ∧ c / 64 = 2 ∧ 2048 ≤ (a % 16 * 64 + b % 64) * 64 + c % 64 ∧ isC ((a % 16 * 64 + b % 64) * 64 + c % 64) then some ((a % 16 * 64 + b % 64) * 64 + c % 64, 3) else none
      | _ => none)
    else if a / 8 = 30 then (match l with
      | b :: c :: d :: _ => if b / 64 = 2 ∧ c / 64 = 2 ∧ d / 64 = 2 ∧ 65536 ≤ ((a % 8 * 64 + b % 64) * 64 + c % 64) * 64 + d % 64 ∧ isC (((a % 8 * 64 + b % 64) * 64 + c % 64) * 64 + d % 64) then some (((a % 8 * 64 + b % 64) * 64 + c % 64) * 64 + d % 64, 4) else none
      | _ => none)
    else none
def nat (l : List UInt8) : List Nat := l.map UInt8.toNat
def dec (l : List UInt8) : Option (Nat × Nat) := decN (nat l)
theorem nat_ofNat (l : List Nat) (h : ∀ x ∈ l, x < 256) : nat (l.map UInt8.ofNat) = l := by
  unfold nat
  rw [List.map_map]
  conv => rhs; rw [← List.map_id l]
  apply List.map_congr_left
  intro x hx
  have := h x hx
  simp
  omega
theorem encN_small (c : Nat) (h : isC c) : ∀ x ∈ encN c, x < 256 := by
  unfold isC at h
  unfold encN
  intro x hx
  split at hx
  · simp at hx; omega
  · split at hx
    · simp at hx; omega
    · split at hx
      · simp at hx; omega
      · simp at hx; omega
theorem nat_enc (c : Nat) (h : isC c) : nat (enc c) = encN c := nat_ofNat _ (encN_small c h)
theorem enc_length (c : Nat) : (enc c).length = (encN c).length := by simp [enc]
theorem encN_length (c : Nat) : 1 ≤ (encN c).length ∧ (encN c).length ≤ 4 := by
  unfold encN
  split
  · simp
  · split
    · simp
    · split <;> simp
theorem enc_len (c : Nat) : 1 ≤ (enc c).length ∧ (enc c).length ≤ 4 := by rw [enc_length]; exact encN_length c
theorem decN_enc (c : Nat) (h : isC c) (r : List Nat) : decN (encN c ++ r) = some (c, (encN c).length) := by
  have h' := h
  unfold isC at h'
  unfold encN
  by_cases h1 : c < 128
  · rw [if_pos h1]
    simp only [List.cons_append, decN, if_pos h1, List.length_cons, List.length_nil]
  · rw [if_neg h1]
    by_cases h2 : c < 2048
    · rw [if_pos h2]
      have e : (192 + c / 64) % 32 * 64 + (128 + c % 64) % 64 = c := by omega
      simp only [List.cons_append, List.nil_append, decN, List.length_cons, List.length_nil, e]
      rw [if_neg (by omega), if_pos (by omega), if_pos (by omega)]
    · rw [if_neg h2]
      by_cases h3 : c < 65536
      · rw [if_pos h3]
        have e : ((224 + c / 4096) % 16 * 64 + (128 + c / 64 % 64) % 64) * 64 + (128 + c % 64) % 64 = c := by omega
        simp only [List.cons_append, List.nil_append, decN, List.length_cons, List.length_nil, e]
        rw [if_neg (by omega), if_neg (by omega), if_pos (by omega), if_pos ⟨by omega, by omega, by omega, h⟩]
      · rw [if_neg h3]
        have e : (((240 + c / 262144) % 8 * 64 + (128 + c / 4096 % 64) % 64) * 64 + (128 + c / 64 % 64) % 64) * 64 + (128 + c % 64) % 64 = c := by omega
        simp only [List.cons_append, List.nil_append, decN, List.length_cons, List.length_nil, e]
        rw [if_neg (by omega), if_neg (by omega), if_neg (by omega), if_pos (by omega), if_pos ⟨by omega, by omega, by omega, by omega, h⟩]
theorem decN_inv (l : List Nat) (hl : ∀ x ∈ l, x < 256) {c n : Nat} (h : decN l = some (c, n)) : isC c ∧ n = (encN c).length ∧ l.take n = encN c := by
  cases l with
  | nil => cases h
  | cons a l =>
    have ha := hl a (by simp)
    simp only [decN] at h
    by_cases h1 : a < 128
    · rw [if_pos h1] at h
      cases h
      refine ⟨⟨by omega, by omega⟩, ?_, ?_⟩
      · unfold encN; rw [if_pos h1]; rfl
      · unfold encN; rw [if_pos h1]; rfl
    · rw [if_neg h1] at h
      by_cases h2 : a / 32 = 6
      · rw [if_pos h2] at h
        cases l with
        | nil => cases h
        | cons b l =>
          have hb := hl b (by simp)
          simp only at h
          split at h
          · rename_i hc
            cases h
            have e : encN (a % 32 * 64 + b % 64) = [a, b] := by
              unfold encN
              rw [if_neg (by omega), if_pos (by omega)]
              congr 1
              · omega
              · congr 1; omega
            rw [e]
            exact ⟨⟨by omega, by omega⟩, rfl, rfl⟩
          · cases h
      · rw [if_neg h2] at h
        by_cases h3 : a / 16 = 14
        · rw [if_pos h3] at h
          match l, h with
          | b :: d :: l, h =>
            have hb := hl b (by simp)
            have hd := hl d (by simp)
            simp only at h
            split at h
            · rename_i hc
              cases h
              have e : encN ((a % 16 * 64 + b % 64) * 64 + d % 64) = [a, b, d] := by
                unfold encN
                rw [if_neg (by omega), if_neg (by omega), if_pos (by omega)]
                congr 1
                · omega
                · congr 1
                  · omega
                  · congr 1; omega
              rw [e]
              exact ⟨hc.2.2.2, rfl, rfl⟩
            · cases h
        · rw [if_neg h3] at h
          by_cases h4 : a / 8 = 30
          · rw [if_pos h4] at h
            match l, h with
            | b :: d :: f :: l, h =>
              have hb := hl b (by simp)
              have hd := hl d (by simp)
              have hf := hl f (by simp)
              simp only at h
              split at h
              · rename_i hc
                cases h
                have e : encN (((a % 8 * 64 + b % 64) * 64 + d % 64) * 64 + f % 64) = [a, b, d, f] := by
                  unfold encN
                  rw [if_neg (by omega), if_neg (by omega), if_neg (by omega)]
                  congr 1
                  · omega
                  · congr 1
                    · omega
                    · congr 1
                      · omega
                      · congr 1; omega
                rw [e]
                exact ⟨hc.2.2.2.2, rfl, rfl⟩
              · cases h
          · rw [if_neg h4] at h
            cases h
theorem nat_small (l : List UInt8) : ∀ x ∈ nat l, x < 256 := by
  intro x hx
  unfold nat at hx
  rw [List.mem_map] at hx
  obtain ⟨b, _, rfl⟩ := hx
  exact b.toNat_lt
theorem nat_app (a b : List UInt8) : nat (a ++ b) = nat a ++ nat b := by simp [nat]
theorem nat_inj {a b : List UInt8} (h : nat a = nat b) : a = b := by
  unfold nat at h
  exact (List.map_inj_right (fun _ _ => UInt8.toNat_inj.1)).1 h
theorem dec_enc (c : Nat) (h : isC c) (r : List UInt8) : dec (enc c ++ r) = some (c, (enc c).length) := by
  unfold dec
  rw [nat_app, nat_enc c h, decN_enc c h, enc_length]
theorem dec_inv {l : List UInt8} {c n : Nat} (h : dec l = some (c, n)) : isC c ∧ n = (enc c).length ∧ l = enc c ++ l.drop n := by
  obtain ⟨h1, h2, h3⟩ := decN_inv (nat l) (nat_small l) h
  refine ⟨h1, by rw [enc_length]; exact h2, ?_⟩
  have e : l.take n = enc c := by
    apply nat_inj
    rw [nat_enc c h1, ← h3]
    simp [nat, List.map_take]
  rw [← e, List.take_append_drop]
theorem dec_nil : dec [] = none := rfl
theorem dec_le {l : List UInt8} {c n : Nat} (h : dec l = some (c, n)) : 1 ≤ n ∧ n ≤ 4 ∧ n ≤ l.length := by
  obtain ⟨_, h2, h3⟩ := dec_inv h
  have := enc_len c
  have h4 := congrArg List.length h3
  rw [List.length_append] at h4
  omega
/-- All characters. -/
def chs (l : List UInt8) : Option (List Nat) :=
  match h : dec l with
  | none => if l = [] then some [] else none
  | some (c, n) => (chs (l.drop n)).map (c :: ·)
termination_by l.length
decreasing_by
  have := dec_le h
  rw [List.length_drop]
  omega
theorem chs_nil : chs [] = some [] := by
  rw [chs]
  split
  · rfl
  · rename_i h
    cases h
theorem chs_none {l : List UInt8} (h : dec l = none) (hl : l ≠ []) : chs l = none := by
  rw [chs]
  split
  · rw [if_neg hl]
  · rename_i h'
    rw [h] at h'
    cases h'
theorem chs_some {l : List UInt8} {c n : Nat} (h : dec l = some (c, n)) : chs l = (chs (l.drop n)).map (c :: ·) := by
  rw [chs]
  split
  · rename_i h'
    rw [h] at h'
    cases h'
  · rename_i c' n' h'
    rw [h] at h'
    cases h'
    rfl
def encs (cs : List Nat) : List UInt8 := cs.flatMap enc
theorem encs_cons (c : Nat) (cs : List Nat) : encs (c :: cs) = enc c ++ encs cs := by simp [encs]
theorem encs_app (a b : List Nat) : encs (a ++ b) = encs a ++ encs b := by simp [encs]
theorem chs_cons (c : Nat) (h : isC c) (r : List UInt8) : chs (enc c ++ r) = (chs r).map (c :: ·) := by
  rw [chs_some (dec_enc c h r), List.drop_left]
theorem chs_encs (cs : List Nat) (h : ∀ c ∈ cs, isC c) (r : List UInt8) : chs (encs cs ++ r) = (chs r).map (cs ++ ·) := by
  induction cs with
  | nil => cases hr : chs r <;> simp [encs, hr]
  | cons c cs ih =>
    rw [encs_cons, List.append_assoc, chs_cons c (h c (by simp)), ih (fun x hx => h x (by simp [hx]))]
    cases chs r <;> simp
theorem chs_all (cs : List Nat) (h : ∀ c ∈ cs, isC c) : chs (encs cs) = some cs := by
  have := chs_encs cs h []
  rw [List.append_nil, chs_nil] at this
  simpa using this
theorem chs_inv (n : Nat) : ∀ (l : List UInt8) (cs : List Nat), l.length ≤ n → chs l = some cs → (∀ c ∈ cs, isC c) ∧ l = encs cs := by
  induction n with
  | zero =>
    intro l cs hl h
    obtain rfl : l = [] := List.length_eq_zero_iff.mp (by omega)
    rw [chs_nil] at h
    cases h
    exact ⟨by simp, rfl⟩
  | succ n ih =>
    intro l cs hl h
    cases hd : dec l with
    | none =>
      by_cases h0 : l = []
      · subst h0
        rw [chs_nil] at h
        cases h
        exact ⟨by simp, rfl⟩
      · rw [chs_none hd h0] at h
        cases h
    | some x =>
      obtain ⟨c, k⟩ := x
      have hk := dec_le hd
      obtain ⟨i1, i2, i3⟩ := dec_inv hd
      rw [chs_some hd] at h
      cases hr : chs (l.drop k) with
      | none => rw [hr] at h; cases h
      | some ds =>
        rw [hr] at h
        cases h
        obtain ⟨j1, j2⟩ := ih (l.drop k) ds (by rw [List.length_drop]; omega) hr
        refine ⟨fun x hx => ?_, ?_⟩
        · rw [List.mem_cons] at hx
          rcases hx with rfl | hx
          · exact i1
          · exact j1 x hx
        · rw [encs_cons, ← j2]
          exact i3
theorem chs_iff {l : List UInt8} {cs : List Nat} : chs l = some cs ↔ (∀ c ∈ cs, isC c) ∧ l = encs cs :=
  ⟨chs_inv l.length l cs (Nat.le_refl _), fun ⟨h, e⟩ => by rw [e]; exact chs_all cs h⟩
theorem chs_length {l : List UInt8} {cs : List Nat} (h : chs l = some cs) : cs.length ≤ l.length := by
  obtain ⟨h1, e⟩ := chs_iff.1 h
  rw [e]
  clear h e h1
  induction cs with
  | nil => simp [encs]
  | cons c cs ih => rw [encs_cons, List.length_append]; have := enc_len c; simp; omega
/-- Whether a byte goes on with a character. -/
def cont (b : UInt8) : Prop := b.toNat / 64 = 2
instance (b : UInt8) : Decidable (cont b) := by unfold cont; infer_instance
theorem enc_cont (c : Nat) (h : isC c) (i : Nat) (b : UInt8) (hi : (enc c)[i]? = some b) : cont b ↔ 0 < i := by
  unfold isC at h
  have hn : (encN c)[i]? = some b.toNat := by
    rw [← nat_enc c h]
    simp [nat, hi]
  unfold cont
  generalize b.toNat = x at hn
  unfold encN at hn
  split at hn
  · match i, hn with
    | 0, hn => simp at hn; omega
    | i + 1, hn => simp at hn
  · split at hn
    · match i, hn with
      | 0, hn => simp at hn; omega
      | 1, hn => simp at hn; omega
      | i + 2, hn => simp at hn
    · split at hn
      · match i, hn with
        | 0, hn => simp at hn; omega
        | 1, hn => simp at hn; omega
        | 2, hn => simp at hn; omega
        | i + 3, hn => simp at hn
      · match i, hn with
        | 0, hn => simp at hn; omega
        | 1, hn => simp at hn; omega
        | 2, hn => simp at hn; omega
        | 3, hn => simp at hn; omega
        | i + 4, hn => simp at hn
/-- How many bytes the first characters have that have at most m. -/
def fit : List Nat → Nat → Nat
  | [], _ => 0
  | c :: cs, m => if (enc c).length ≤ m then (enc c).length + fit cs (m - (enc c).length) else 0
theorem fit_all (cs : List Nat) : ∀ m, (encs cs).length ≤ m → fit cs m = (encs cs).length := by
  induction cs with
  | nil => intro m _; rfl
  | cons c cs ih =>
    intro m h
    rw [encs_cons, List.length_append] at h
    rw [encs_cons, List.length_append, fit, if_pos (by omega), ih _ (by omega)]
theorem fit_le (cs : List Nat) : ∀ m, fit cs m ≤ m ∧ fit cs m ≤ (encs cs).length := by
  induction cs with
  | nil => intro m; simp [fit]
  | cons c cs ih =>
    intro m
    rw [encs_cons, List.length_append, fit]
    have := ih (m - (enc c).length)
    split <;> omega
/-- A place behind which no character goes on is one where characters end. -/
theorem fit_at (cs : List Nat) : ∀ m, (∀ c ∈ cs, isC c) → (m = 0 ∨ (encs cs).length ≤ m ∨ ∃ b, (encs cs)[m]? = some b ∧ ¬ cont b) → fit cs m = min m (encs cs).length := by
  induction cs with
  | nil => intro m _ _; simp [fit, encs]
  | cons c cs ih =>
    intro m hc h
    have he := enc_len c
    rw [fit]
    by_cases hm : (enc c).length ≤ m
    · rw [if_pos hm, encs_cons, List.length_append]
      rw [encs_cons, List.length_append, List.getElem?_append_right hm] at h
      rw [ih (m - (enc c).length) (fun x hx => hc x (by simp [hx])) (by
        rcases h with h | h | h
        · omega
        · exact .inr (.inl (by omega))
        · exact .inr (.inr h))]
      omega
    · rw [if_neg hm]
      rcases h with h | h | ⟨b, hb, hn⟩
      · omega
      · rw [encs_cons, List.length_append] at h; omega
      · rw [encs_cons, List.getElem?_append_left (by omega)] at hb
        have := (enc_cont c (hc c (by simp)) m b hb)
        have : m = 0 := by
          rcases Nat.eq_zero_or_pos m with z | z
          · exact z
          · exact absurd (this.2 z) hn
        omega
theorem fit_back (cs : List Nat) : ∀ m, (∀ c ∈ cs, isC c) → 0 < m → (∃ b, (encs cs)[m]? = some b ∧ cont b) → fit cs m = fit cs (m - 1) := by
  induction cs with
  | nil => intro m _ _ h; obtain ⟨b, hb, _⟩ := h; simp [encs] at hb
  | cons c cs ih =>
    intro m hc h0 ⟨b, hb, hn⟩
    have he := enc_len c
    rw [encs_cons] at hb
    by_cases hm : (enc c).length ≤ m
    · rw [List.getElem?_append_right hm] at hb
      by_cases hq : m = (enc c).length
      · rw [hq, Nat.sub_self] at hb
        cases cs with
        | nil => simp [encs] at hb
        | cons d cs =>
          rw [encs_cons, List.getElem?_append_left (by have := enc_len d; omega)] at hb
          have := (enc_cont d (hc d (by simp)) 0 b hb).1 hn
          omega
      · rw [fit, fit, if_pos hm, if_pos (by omega), ih (m - (enc c).length) (fun x hx => hc x (by simp [hx])) (by omega) ⟨b, hb, hn⟩]
        congr 2
        omega
    · rw [fit, fit, if_neg hm, if_neg (by omega)]
/-- What is cut off leaves characters, and the next one would be too much. -/
theorem fit_split (cs : List Nat) : ∀ m, ∃ k, k ≤ cs.length ∧ fit cs m = (encs (cs.take k)).length ∧ (k < cs.length → ∃ c, cs[k]? = some c ∧ m < fit cs m + (enc c).length) := by
  induction cs with
  | nil => intro m; exact ⟨0, by simp, by simp [fit, encs], by simp⟩
  | cons c cs ih =>
    intro m
    by_cases hm : (enc c).length ≤ m
    · obtain ⟨k, h1, h2, h3⟩ := ih (m - (enc c).length)
      refine ⟨k + 1, by simp; omega, ?_, ?_⟩
      · rw [fit, if_pos hm, List.take_succ_cons, encs_cons, List.length_append, h2]
      · intro hk
        simp only [List.length_cons] at hk
        obtain ⟨d, h4, h5⟩ := h3 (by omega)
        refine ⟨d, by simpa using h4, ?_⟩
        rw [fit, if_pos hm]
        omega
    · refine ⟨0, by simp, by rw [fit, if_neg hm]; simp [encs], fun _ => ⟨c, by simp, ?_⟩⟩
      rw [fit, if_neg hm]
      omega
end Go.Proofs.Ytgopphglkjdcaaa.Utf
end
/-! UtfS -/
section
/- What is shown of bytes, over lists: it is UTF-8 without a control, and unlike of unlike bytes. -/
namespace Go.Proofs.Ytgopphglkjdcaaa.Utf
open Go
def digL : List UInt8 := [48, 49, 50, 51, 52, 53, 54, 55, 56, 57, 97, 98, 99, 100, 101, 102]
def dg (i : Nat) : UInt8 := digL.getD i 0
def hexL (b : UInt8) : List UInt8 := [92, 120, dg (b.toNat / 16), dg (b.toNat % 16)]
def unit (l : List UInt8) : List UInt8 × Nat :=
  match dec l with
  | some (c, n) => if c < 32 ∨ c = 127 then (hexL (l.headD 0), 1) else if c = 92 then ([92, 92], n) else (l.take n, n)
  | none => (hexL (l.headD 0), 1)
theorem unit_none {l : List UInt8} (h : dec l = none) : unit l = (hexL (l.headD 0), 1) := by unfold unit; rw [h]
theorem unit_ctl {l : List UInt8} {c n : Nat} (h : dec l = some (c, n)) (hc : c < 32 ∨ c = 127) : unit l = (hexL (l.headD 0), 1) := by unfold unit; rw [h]; exact if_pos hc
theorem unit_back {l : List UInt8} {n : Nat} (h : dec l = some (92, n)) : unit l = ([92, 92], n) := by unfold unit; rw [h]; rfl
theorem unit_plain {l : List UInt8} {c n : Nat} (h : dec l = some (c, n)) (hc : ¬ (c < 32 ∨ c = 127)) (h9 : c ≠ 92) : unit l = (l.take n, n) := by
  unfold unit
  rw [h]
  simp only
  rw [if_neg hc, if_neg h9]
theorem unit_pos (l : List UInt8) : 1 ≤ (unit l).2 ∧ (unit l).2 ≤ 4 := by
  cases h : dec l with
  | none => rw [unit_none h]; show 1 ≤ 1 ∧ 1 ≤ 4; decide
  | some x =>
    obtain ⟨c, n⟩ := x
    have := dec_le h
    by_cases hc : c < 32 ∨ c = 127
    · rw [unit_ctl h hc]; show 1 ≤ 1 ∧ 1 ≤ 4; decide
    · by_cases h9 : c = 92
      · subst h9; rw [unit_back h]; exact ⟨this.1, this.2.1⟩
      · rw [unit_plain h hc h9]; exact ⟨this.1, this.2.1⟩
theorem enc_ascii (c : Nat) (h : c < 128) : enc c = [UInt8.ofNat c] := by
  unfold enc encN
  rw [if_pos h]
  rfl
theorem enc_u8 (b : UInt8) (h : b.toNat < 128) : enc b.toNat = [b] := by
  rw [enc_ascii _ h]
  congr 1
  simp
theorem head_ascii {l : List UInt8} {c n : Nat} (h : dec l = some (c, n)) (hc : c < 128) : ∃ t, l = UInt8.ofNat c :: t ∧ n = 1 := by
  obtain ⟨_, h2, h3⟩ := dec_inv h
  rw [enc_ascii c hc] at h2 h3
  exact ⟨_, h3, h2⟩
theorem unit_cases (l : List UInt8) (h : l ≠ []) :
    (∃ b t, l = b :: t ∧ unit l = (hexL b, 1)) ∨ (∃ t, l = 92 :: t ∧ unit l = ([92, 92], 1)) ∨
    (∃ c t, isC c ∧ 32 ≤ c ∧ c ≠ 127 ∧ c ≠ 92 ∧ l = enc c ++ t ∧ unit l = (enc c, (enc c).length)) := by
  cases hd : dec l with
  | none =>
    cases l with
    | nil => exact absurd rfl h
    | cons b t => exact .inl ⟨b, t, rfl, unit_none hd⟩
  | some x =>
    obtain ⟨c, n⟩ := x
    by_cases hc : c < 32 ∨ c = 127
    · cases l with
      | nil => exact absurd rfl h
      | cons b t => exact .inl ⟨b, t, rfl, unit_ctl hd hc⟩
    · by_cases h9 : c = 92
      · subst h9
        obtain ⟨t, ht, hn⟩ := head_ascii hd (by decide)
        subst hn
        exact .inr (.inl ⟨t, ht, unit_back hd⟩)
      · obtain ⟨h1, h2, h3⟩ := dec_inv hd
        refine .inr (.inr ⟨c, l.drop n, h1, by omega, by omega, h9, h3, ?_⟩)
        rw [unit_plain hd hc h9, ← h2]
        congr 1
        rw [h2]
        conv => lhs; rw [h3]
        rw [List.take_left]
theorem unit_le (l : List UInt8) (h : l ≠ []) : (unit l).2 ≤ l.length := by
  rcases unit_cases l h with ⟨b, t, e, hu⟩ | ⟨t, e, hu⟩ | ⟨c, t, _, _, _, _, e, hu⟩
  · rw [hu, e]; simp
  · rw [hu, e]; simp
  · rw [hu, e]; simp
def shown (l : List UInt8) : List UInt8 := if h : l = [] then [] else (unit l).1 ++ shown (l.drop (unit l).2)
termination_by l.length
decreasing_by
  have := unit_le l h
  have := (unit_pos l).1
  rw [List.length_drop]
  omega
theorem shown_nil : shown [] = [] := by rw [shown]; exact dif_pos rfl
theorem shown_step {l : List UInt8} (h : l ≠ []) : shown l = (unit l).1 ++ shown (l.drop (unit l).2) := by rw [shown]; exact dif_neg h
theorem hexL_length (b : UInt8) : (hexL b).length = 4 := rfl
theorem unit_len (l : List UInt8) (h : l ≠ []) : 1 ≤ (unit l).1.length ∧ (unit l).1.length ≤ 4 := by
  rcases unit_cases l h with ⟨b, t, _, hu⟩ | ⟨t, _, hu⟩ | ⟨c, t, _, _, _, _, _, hu⟩
  · rw [hu]; show 1 ≤ 4 ∧ 4 ≤ 4; decide
  · rw [hu]; show 1 ≤ 2 ∧ 2 ≤ 4; decide
  · rw [hu]; exact enc_len c
theorem shown_length (n : Nat) : ∀ l : List UInt8, l.length ≤ n → (shown l).length ≤ 4 * l.length := by
  induction n with
  | zero =>
    intro l hl
    obtain rfl : l = [] := List.length_eq_zero_iff.mp (by omega)
    rw [shown_nil]
    simp
  | succ n ih =>
    intro l hl
    by_cases h : l = []
    · subst h; rw [shown_nil]; simp
    · have h1 := unit_len l h
      have h2 := (unit_pos l).1
      have h3 := unit_le l h
      have := ih (l.drop (unit l).2) (by rw [List.length_drop]; omega)
      rw [shown_step h, List.length_append]
      rw [List.length_drop] at this
      omega
theorem dg_range : ∀ i : Fin 16, 48 ≤ (dg i.val).toNat ∧ (dg i.val).toNat < 127 := by decide
theorem dg_inj : ∀ i j : Fin 16, dg i.val = dg j.val → i = j := by decide
theorem hexL_encs (b : UInt8) : hexL b = encs [92, 120, (dg (b.toNat / 16)).toNat, (dg (b.toNat % 16)).toNat] := by
  have hb := b.toNat_lt
  have h1 := dg_range ⟨b.toNat / 16, by omega⟩
  have h2 := dg_range ⟨b.toNat % 16, by omega⟩
  simp only at h1 h2
  simp only [encs_cons]
  rw [enc_u8 _ (by omega), enc_u8 _ (by omega)]
  rfl
theorem hexL_inj {a b : UInt8} (h : hexL a = hexL b) : a = b := by
  have ha := a.toNat_lt
  have hb := b.toNat_lt
  unfold hexL at h
  simp only [List.cons.injEq, true_and, and_true] at h
  have h1 := dg_inj ⟨a.toNat / 16, by omega⟩ ⟨b.toNat / 16, by omega⟩ h.1
  have h2 := dg_inj ⟨a.toNat % 16, by omega⟩ ⟨b.toNat % 16, by omega⟩ h.2
  simp only [Fin.mk.injEq] at h1 h2
  apply UInt8.toNat_inj.1
  omega
/-- No control. -/
def calm (c : Nat) : Prop := 32 ≤ c ∧ c ≠ 127
instance (c : Nat) : Decidable (calm c) := by unfold calm; infer_instance
theorem shown_chs (n : Nat) : ∀ l : List UInt8, l.length ≤ n → ∃ cs, chs (shown l) = some cs ∧ ∀ c ∈ cs, calm c := by
  induction n with
  | zero =>
    intro l hl
    obtain rfl : l = [] := List.length_eq_zero_iff.mp (by omega)
    exact ⟨[], by rw [shown_nil, chs_nil], by simp⟩
  | succ n ih =>
    intro l hl
    by_cases h : l = []
    · subst h; exact ⟨[], by rw [shown_nil, chs_nil], by simp⟩
    · have h2 := (unit_pos l).1
      obtain ⟨cs, i1, i2⟩ := ih (l.drop (unit l).2) (by rw [List.length_drop]; have := unit_le l h; omega)
      rw [shown_step h]
      generalize shown (l.drop (unit l).2) = X at i1
      rcases unit_cases l h with ⟨b, t, _, hu⟩ | ⟨t, _, hu⟩ | ⟨c, t, h3, h4, h5, _, _, hu⟩
      · rw [hu]
        have hb := b.toNat_lt
        have d1 := dg_range ⟨b.toNat / 16, by omega⟩
        have d2 := dg_range ⟨b.toNat % 16, by omega⟩
        simp only at d1 d2
        refine ⟨[92, 120, (dg (b.toNat / 16)).toNat, (dg (b.toNat % 16)).toNat] ++ cs, ?_, ?_⟩
        · simp only
          rw [hexL_encs, chs_encs _ (by
            intro c hc
            simp at hc
            unfold isC
            omega), i1]
          rfl
        · intro c hc
          rw [List.mem_append] at hc
          rcases hc with hc | hc
          · simp at hc; unfold calm; omega
          · exact i2 c hc
      · rw [hu]
        refine ⟨[92, 92] ++ cs, ?_, ?_⟩
        · have e : ([92, 92] : List UInt8) = encs [92, 92] := by
            simp only [encs_cons]
            rw [enc_ascii 92 (by decide)]
            rfl
          simp only
          rw [e, chs_encs _ (by intro c hc; simp at hc; unfold isC; omega), i1]
          rfl
        · intro c hc
          rw [List.mem_append] at hc
          rcases hc with hc | hc
          · simp at hc; unfold calm; omega
          · exact i2 c hc
      · rw [hu]
        refine ⟨c :: cs, ?_, ?_⟩
        · simp only
          rw [chs_cons c h3, i1]
          rfl
        · intro d hd
          rw [List.mem_cons] at hd
          rcases hd with rfl | hd
          · exact ⟨h4, h5⟩
          · exact i2 d hd
theorem enc_head {c : Nat} (h : isC c) (h9 : c ≠ 92) (X Y : List UInt8) (e : enc c ++ X = 92 :: Y) : False := by
  have h1 := dec_enc c h X
  have h2 := dec_enc 92 (by decide) Y
  rw [enc_ascii 92 (by decide)] at h2
  rw [e] at h1
  have h3 : dec (92 :: Y) = some (92, 1) := h2
  rw [h3] at h1
  simp only [Option.some.injEq, Prod.mk.injEq] at h1
  exact h9 h1.1.symm
theorem shown_inj (n : Nat) : ∀ a b : List UInt8, a.length ≤ n → shown a = shown b → a = b := by
  induction n with
  | zero =>
    intro a b ha h
    obtain rfl : a = [] := List.length_eq_zero_iff.mp (by omega)
    by_cases hb : b = []
    · exact hb.symm
    · rw [shown_nil, shown_step hb] at h
      have := (unit_len b hb).1
      have h2 := congrArg List.length h
      rw [List.length_append, List.length_nil] at h2
      omega
  | succ n ih =>
    intro a b ha h
    by_cases h0 : a = []
    · subst h0
      by_cases hb : b = []
      · exact hb.symm
      · rw [shown_nil, shown_step hb] at h
        have := (unit_len b hb).1
        have h2 := congrArg List.length h
        rw [List.length_append, List.length_nil] at h2
        omega
    · by_cases hb : b = []
      · subst hb
        rw [shown_nil, shown_step h0] at h
        have := (unit_len a h0).1
        have h2 := congrArg List.length h
        rw [List.length_append, List.length_nil] at h2
        omega
      · rw [shown_step h0, shown_step hb] at h
        rcases unit_cases a h0 with ⟨x, t, ea, hu⟩ | ⟨t, ea, hu⟩ | ⟨c, t, h3, h4, h5, h6, ea, hu⟩
        · rcases unit_cases b hb with ⟨y, s, eb, hv⟩ | ⟨s, eb, hv⟩ | ⟨d, s, g3, g4, g5, g6, eb, hv⟩
          · rw [hu, hv] at h
            simp only at h
            obtain ⟨e1, e2⟩ := List.append_inj h rfl
            rw [ea, eb] at e2
            rw [ea, eb, hexL_inj e1]
            congr 1
            exact ih t s (by rw [ea] at ha; simp at ha; omega) e2
          · rw [hu, hv] at h
            simp [hexL] at h
          · rw [hu, hv] at h
            exact (enc_head g3 g6 _ _ h.symm).elim
        · rcases unit_cases b hb with ⟨y, s, eb, hv⟩ | ⟨s, eb, hv⟩ | ⟨d, s, g3, g4, g5, g6, eb, hv⟩
          · rw [hu, hv] at h
            simp [hexL] at h
          · rw [hu, hv] at h
            simp only at h
            obtain ⟨_, e2⟩ := List.append_inj h rfl
            rw [ea, eb] at e2
            rw [ea, eb]
            congr 1
            exact ih t s (by rw [ea] at ha; simp at ha; omega) e2
          · rw [hu, hv] at h
            exact (enc_head g3 g6 _ _ h.symm).elim
        · rcases unit_cases b hb with ⟨y, s, eb, hv⟩ | ⟨s, eb, hv⟩ | ⟨d, s, g3, g4, g5, g6, eb, hv⟩
          · rw [hu, hv] at h
            exact (enc_head h3 h6 _ _ h).elim
          · rw [hu, hv] at h
            exact (enc_head h3 h6 _ _ h).elim
          · rw [hu, hv] at h
            simp only at h
            have k1 := dec_enc c h3 (shown (a.drop (enc c).length))
            have k2 := dec_enc d g3 (shown (b.drop (enc d).length))
            rw [h, k2] at k1
            simp only [Option.some.injEq, Prod.mk.injEq] at k1
            obtain ⟨rfl, _⟩ := k1
            obtain ⟨_, e2⟩ := List.append_inj h rfl
            rw [ea, eb, List.drop_left, List.drop_left] at e2
            rw [ea, eb]
            congr 1
            exact ih t s (by rw [ea, List.length_append] at ha; have := enc_len d; omega) e2
theorem shown_plain (cs : List Nat) : (∀ c ∈ cs, isC c ∧ calm c ∧ c ≠ 92) → shown (encs cs) = encs cs := by
  induction cs with
  | nil => intro _; exact shown_nil
  | cons c cs ih =>
    intro h
    obtain ⟨h1, h2, h3⟩ := h c (by simp)
    have hl := enc_len c
    have h0 : encs (c :: cs) ≠ [] := by
      rw [encs_cons]
      intro z
      have := congrArg List.length z
      rw [List.length_append, List.length_nil] at this
      omega
    rw [shown_step h0, encs_cons, unit_plain (dec_enc c h1 _) (by unfold calm at h2; omega) h3]
    simp only
    rw [List.take_left, List.drop_left, ih (fun x hx => h x (by simp [hx]))]
theorem mem_back (cs : List Nat) (h : 92 ∈ cs) : (92 : UInt8) ∈ encs cs := by
  unfold encs
  rw [List.mem_flatMap]
  exact ⟨92, h, by rw [enc_ascii 92 (by decide)]; simp⟩
end Go.Proofs.Ytgopphglkjdcaaa.Utf
end
/-! UtfF -/
section
/- The program's and the document's functions of characters are the plain words on lists. -/
namespace Go.Proofs.Ytgopphglkjdcaaa.Utf
open Go Go.RowKit Go.Proofs.Ytgopphglkjdcaaa.Px Go.Proofs.YtgopphglkjdcaaaW.PrintWords Go.Proofs.Ytgopphglkjdcaaa.Str
theorem is_f (c : Nat) : utf_is.f (c : Int) = some (decide (isC c)) := by
  unfold utf_is.f
  rw [if_pos (by omega)]
  by_cases h1 : c ≤ 1114111
  · rw [if_pos (by omega)]
    by_cases h2 : c < 55296
    · rw [if_pos (by omega), decide_eq_true (show isC c from ⟨h1, .inl h2⟩)]
    · rw [if_neg (by omega)]
      congr 1
      rw [Bool.eq_iff_iff, decide_eq_true_eq, decide_eq_true_eq]
      unfold isC
      omega
  · rw [if_neg (by omega), decide_eq_false (fun z : isC c => h1 z.1)]
theorem is_int (x : Int) (h : utf_is.f x = some true) : ∃ c : Nat, x = c ∧ isC c := by
  by_cases h0 : 0 ≤ x
  · obtain ⟨c, rfl⟩ : ∃ c : Nat, x = c := ⟨x.toNat, by omega⟩
    rw [is_f] at h
    exact ⟨c, rfl, by simpa using h⟩
  · unfold utf_is.f at h
    rw [if_neg (by omega)] at h
    cases h
theorem is_no (x : Int) (h : x < 0) : utf_is.f x = some false := by
  unfold utf_is.f
  rw [if_neg (by omega)]
theorem f63 : ∀ b : Fin 256, Go.bits .and .u8 (b.val : Int) 63 = ((b.val % 64 : Nat) : Int) := by decide +kernel
theorem f31 : ∀ b : Fin 256, Go.bits .and .u8 (b.val : Int) 31 = ((b.val % 32 : Nat) : Int) := by decide +kernel
theorem f15 : ∀ b : Fin 256, Go.bits .and .u8 (b.val : Int) 15 = ((b.val % 16 : Nat) : Int) := by decide +kernel
theorem f7 : ∀ b : Fin 256, Go.bits .and .u8 (b.val : Int) 7 = ((b.val % 8 : Nat) : Int) := by decide +kernel
theorem or_i64 (x y : Nat) (hx : x % 64 = 0) (hx1 : x < 4611686018427387904) (hy : y < 64) : Go.bits .or .i64 (x : Int) (y : Int) = ((x + y : Nat) : Int) := by
  rw [bits_join .i64 63 (by decide) (fun n h0 h1 => by rw [IntKind.wrap_i64]; omega) 6 (x : Int) (y : Int) (by omega) (by omega) (by omega) (by omega) (by omega) (by omega)]
  omega
/-- A byte of a text by its place. -/
def at_ (s : ByteArray) (i : Nat) : Nat := (s.data.toList.getD i 0).toNat
theorem at_lt (s : ByteArray) (i : Nat) : at_ s i < 256 := (s.data.toList.getD i 0).toNat_lt
theorem bt_at {s : ByteArray} {i : Nat} (h : i < s.size) : bt s (i : Int) = (at_ s i : Int) := bt_L h
theorem first_step (s : ByteArray) (k c n i : Nat) (hc : c < 2097152) (hi : i < n) (hs : i < s.size) (hi8 : i < 8) :
    utf_First.l0 (k + 1) s (c : Int) (n : Int) (i : Int) = if at_ s i / 64 = 2 then utf_First.l0 k s ((c * 64 + at_ s i % 64 : Nat) : Int) (n : Int) ((i + 1 : Nat) : Int) else some (0, 0, 40) := by
  have hb := at_lt s i
  simp only [utf_First.l0]
  rw [if_pos (by omega), if_pos (by omega), if_pos (by omega), bt_at hs]
  have e := f63 ⟨at_ s i, hb⟩
  simp only at e
  rw [e, wrap64_id (x := (c : Int) * 64) (by omega) (by omega), wrap64_id (x := ((at_ s i % 64 : Nat) : Int)) (by omega) (by omega), show (c : Int) * 64 = ((c * 64 : Nat) : Int) by omega,
    or_i64 (c * 64) (at_ s i % 64) (by omega) (by omega) (by omega), wrap64_id (by omega) (by omega)]
  by_cases h : at_ s i / 64 = 2
  · rw [if_pos (by omega), if_pos h]
    rfl
  · rw [if_neg (by omega), if_neg h]
def lst (n : Nat) : Nat := if n = 2 then 128 else if n = 3 then 2048 else if n = 4 then 65536 else 0
theorem first_end (s : ByteArray) (k c n : Nat) : utf_First.l0 (k + 1) s (c : Int) (n : Int) (n : Int) = some (if isC c ∧ lst n ≤ c then ((c : Int), (n : Int), (0 : Int)) else (0, 0, 40)) := by
  simp only [utf_First.l0]
  rw [if_neg (by omega), is_f]
  simp only [Option.bind_some, decide_eq_true_eq]
  by_cases h : isC c
  · rw [if_pos h]
    have hl : utf_least.f (n : Int) = some ((lst n : Nat) : Int) := by
      unfold utf_least.f lst
      by_cases h2 : n = 2
      · rw [if_pos (by omega), if_pos h2]; rfl
      · rw [if_neg (by omega), if_neg h2]
        by_cases h3 : n = 3
        · rw [if_pos (by omega), if_pos h3]; rfl
        · rw [if_neg (by omega), if_neg h3]
          by_cases h4 : n = 4
          · rw [if_pos (by omega), if_pos h4]; rfl
          · rw [if_neg (by omega), if_neg h4]; rfl
    rw [hl]
    simp only [Option.bind_some]
    by_cases hc : lst n ≤ c
    · rw [if_neg (by omega), if_pos ⟨h, hc⟩]
    · rw [if_pos (by omega), if_neg (fun z => hc z.2)]
  · rw [if_neg h, if_neg (fun z => h z.1)]
def decR (l : List UInt8) : Int × Int × Int := match dec l with | some (c, n) => ((c : Int), (n : Int), 0) | none => (0, 0, 40)
theorem decR_some {l : List UInt8} {c n : Nat} (h : dec l = some (c, n)) : decR l = ((c : Int), (n : Int), 0) := by unfold decR; rw [h]
theorem decR_none {l : List UInt8} (h : dec l = none) : decR l = (0, 0, 40) := by unfold decR; rw [h]
theorem first_k (s : ByteArray) (k : Nat) : utf_First.f (k + 5) s = some (decR s.data.toList) := by
  unfold utf_First.f
  rw [toList_L]
  cases hl : s.data.toList with
  | nil => rw [if_pos rfl]; rfl
  | cons a l =>
    have hsz : s.size = l.length + 1 := by rw [size_L, hl]; rfl
    have ha : at_ s 0 = a.toNat := by unfold at_; rw [hl]; rfl
    have hal := a.toNat_lt
    have hb0 : bt s 0 = (a.toNat : Int) := by
      have := bt_at (s := s) (i := 0) (by omega)
      rw [ha] at this
      exact this
    rw [if_neg (by simp), if_pos (by omega), hb0]
    unfold utf_long.f
    have gen : ∀ (n c : Nat), n ≠ 0 → (if (n : Int) = 0 then utf_First.j0 (k + 5) s (c : Int) (n : Int) true else utf_First.j0 (k + 5) s (c : Int) (n : Int) (decide ((n : Int) > (s.size : Int)))) = if n ≤ s.size then utf_First.l0 (k + 4) s (c : Int) (n : Int) ((1 : Nat) : Int) else some (0, 0, 40) := by
      intro n c h0
      rw [if_neg (by omega)]
      simp only [utf_First.j0, decide_eq_true_eq]
      by_cases h : n ≤ s.size
      · rw [if_neg (by omega), if_pos h]; rfl
      · rw [if_pos (by omega), if_neg h]
    have fl : ∀ m : Nat, m < 256 → wrap64 (m : Int) = (m : Int) := fun m hm => wrap64_id (by omega) (by omega)
    have na : nat (a :: l) = a.toNat :: nat l := rfl
    by_cases h1 : a.toNat < 128
    · rw [if_pos (by omega), fl _ hal]
      simp only [Option.bind_some]
      have g := gen 1 a.toNat (by decide)
      rw [show ((1 : Nat) : Int) = 1 from rfl] at g
      rw [g, if_pos (by omega)]
      have e := first_end s (k + 3) a.toNat 1
      rw [show ((1 : Nat) : Int) = 1 from rfl] at e
      rw [e, if_pos ⟨⟨by omega, by omega⟩, by show 0 ≤ _; omega⟩]
      unfold decR dec
      rw [na]
      simp only [decN, if_pos h1]
      rfl
    · rw [if_neg (by omega)]
      by_cases h2 : a.toNat / 32 = 6
      · have e31 := f31 ⟨a.toNat, hal⟩
        simp only at e31
        rw [if_pos (by omega), e31, fl _ (by omega)]
        simp only [Option.bind_some]
        have g := gen 2 (a.toNat % 32) (by decide)
        rw [show ((2 : Nat) : Int) = 2 from rfl] at g
        rw [g]
        cases l with
        | nil =>
          rw [if_neg (by simp at hsz; omega)]
          unfold decR dec
          rw [na]
          simp only [decN, if_neg h1, if_pos h2, nat, List.map_nil]
        | cons b l =>
          have hb : at_ s 1 = b.toNat := by unfold at_; rw [hl]; rfl
          have hbl := b.toNat_lt
          have st := first_step s (k + 3) (a.toNat % 32) 2 1 (by omega) (by decide) (by simp at hsz; omega) (by decide)
          have en := first_end s (k + 2) (a.toNat % 32 * 64 + b.toNat % 64) 2
          rw [show ((2 : Nat) : Int) = 2 from rfl] at st en
          rw [if_pos (by simp at hsz; omega), st, hb]
          unfold decR dec
          rw [na]
          simp only [decN, if_neg h1, if_pos h2, nat, List.map_cons]
          by_cases c1 : b.toNat / 64 = 2
          · rw [if_pos c1, en]
            by_cases c2 : lst 2 ≤ a.toNat % 32 * 64 + b.toNat % 64
            · rw [if_pos ⟨⟨by omega, by omega⟩, c2⟩, if_pos ⟨c1, c2⟩]
              rfl
            · rw [if_neg (fun z => c2 z.2), if_neg (fun z => c2 z.2)]
          · rw [if_neg c1, if_neg (fun z => c1 z.1)]
      · rw [if_neg (by omega)]
        by_cases h3 : a.toNat / 16 = 14
        · have e15 := f15 ⟨a.toNat, hal⟩
          simp only at e15
          rw [if_pos (by omega), e15, fl _ (by omega)]
          simp only [Option.bind_some]
          have g := gen 3 (a.toNat % 16) (by decide)
          rw [show ((3 : Nat) : Int) = 3 from rfl] at g
          rw [g]
          match l, hl, hsz, na with
          | [], hl, hsz, na =>
            rw [if_neg (by simp at hsz; omega)]
            unfold decR dec
            rw [na]
            simp only [decN, if_neg h1, if_neg h2, if_pos h3, nat, List.map_nil]
          | [b], hl, hsz, na =>
            rw [if_neg (by simp at hsz; omega)]
            unfold decR dec
            rw [na]
            simp only [decN, if_neg h1, if_neg h2, if_pos h3, nat, List.map_cons, List.map_nil]
          | b :: d :: l, hl, hsz, na =>
            have hb : at_ s 1 = b.toNat := by unfold at_; rw [hl]; rfl
            have hd : at_ s 2 = d.toNat := by unfold at_; rw [hl]; rfl
            have hbl := b.toNat_lt
            have hdl := d.toNat_lt
            simp only [List.length_cons] at hsz
            have s1 := first_step s (k + 3) (a.toNat % 16) 3 1 (by omega) (by decide) (by omega) (by decide)
            have s2 := first_step s (k + 2) (a.toNat % 16 * 64 + b.toNat % 64) 3 2 (by omega) (by decide) (by omega) (by decide)
            have en := first_end s (k + 1) ((a.toNat % 16 * 64 + b.toNat % 64) * 64 + d.toNat % 64) 3
            rw [show ((3 : Nat) : Int) = 3 from rfl] at s1 s2 en
            rw [if_pos (by omega), s1, hb]
            unfold decR dec
            rw [na]
            simp only [decN, if_neg h1, if_neg h2, if_pos h3, nat, List.map_cons]
            by_cases c1 : b.toNat / 64 = 2
            · rw [if_pos c1, show (1 + 1 : Nat) = 2 from rfl, s2, hd]
              by_cases c2 : d.toNat / 64 = 2
              · rw [if_pos c2, en]
                by_cases c3 : isC ((a.toNat % 16 * 64 + b.toNat % 64) * 64 + d.toNat % 64) ∧ lst 3 ≤ (a.toNat % 16 * 64 + b.toNat % 64) * 64 + d.toNat % 64
                · rw [if_pos c3, if_pos ⟨c1, c2, c3.2, c3.1⟩]
                  rfl
                · rw [if_neg c3, if_neg (fun z => c3 ⟨z.2.2.2, z.2.2.1⟩)]
              · rw [if_neg c2, if_neg (fun z => c2 z.2.1)]
            · rw [if_neg c1, if_neg (fun z => c1 z.1)]
        · rw [if_neg (by omega)]
          by_cases h4 : a.toNat / 8 = 30
          · have e7 := f7 ⟨a.toNat, hal⟩
            simp only at e7
            rw [if_pos (by omega), e7, fl _ (by omega)]
            simp only [Option.bind_some]
            have g := gen 4 (a.toNat % 8) (by decide)
            rw [show ((4 : Nat) : Int) = 4 from rfl] at g
            rw [g]
            match l, hl, hsz, na with
            | [], hl, hsz, na =>
              rw [if_neg (by simp at hsz; omega)]
              unfold decR dec
              rw [na]
              simp only [decN, if_neg h1, if_neg h2, if_neg h3, if_pos h4, nat, List.map_nil]
            | [b], hl, hsz, na =>
              rw [if_neg (by simp at hsz; omega)]
              unfold decR dec
              rw [na]
              simp only [decN, if_neg h1, if_neg h2, if_neg h3, if_pos h4, nat, List.map_cons, List.map_nil]
            | [b, d], hl, hsz, na =>
              rw [if_neg (by simp at hsz; omega)]
              unfold decR dec
              rw [na]
              simp only [decN, if_neg h1, if_neg h2, if_neg h3, if_pos h4, nat, List.map_cons, List.map_nil]
            | b :: d :: f :: l, hl, hsz, na =>
              have hb : at_ s 1 = b.toNat := by unfold at_; rw [hl]; rfl
              have hd : at_ s 2 = d.toNat := by unfold at_; rw [hl]; rfl
              have hf : at_ s 3 = f.toNat := by unfold at_; rw [hl]; rfl
              have hbl := b.toNat_lt
              have hdl := d.toNat_lt
              have hfl := f.toNat_lt
              simp only [List.length_cons] at hsz
              have s1 := first_step s (k + 3) (a.toNat % 8) 4 1 (by omega) (by decide) (by omega) (by decide)
              have s2 := first_step s (k + 2) (a.toNat % 8 * 64 + b.toNat % 64) 4 2 (by omega) (by decide) (by omega) (by decide)
              have s3 := first_step s (k + 1) ((a.toNat % 8 * 64 + b.toNat % 64) * 64 + d.toNat % 64) 4 3 (by omega) (by decide) (by omega) (by decide)
              have en := first_end s k (((a.toNat % 8 * 64 + b.toNat % 64) * 64 + d.toNat % 64) * 64 + f.toNat % 64) 4
              rw [show ((4 : Nat) : Int) = 4 from rfl] at s1 s2 s3 en
              rw [if_pos (by omega), s1, hb]
              unfold decR dec
              rw [na]
              simp only [decN, if_neg h1, if_neg h2, if_neg h3, if_pos h4, nat, List.map_cons]
              by_cases c1 : b.toNat / 64 = 2
              · rw [if_pos c1, show (1 + 1 : Nat) = 2 from rfl, s2, hd]
                by_cases c2 : d.toNat / 64 = 2
                · rw [if_pos c2, show (2 + 1 : Nat) = 3 from rfl, s3, hf]
                  by_cases c4 : f.toNat / 64 = 2
                  · rw [if_pos c4, en]
                    by_cases c3 : isC (((a.toNat % 8 * 64 + b.toNat % 64) * 64 + d.toNat % 64) * 64 + f.toNat % 64) ∧ lst 4 ≤ ((a.toNat % 8 * 64 + b.toNat % 64) * 64 + d.toNat % 64) * 64 + f.toNat % 64
                    · rw [if_pos c3, if_pos ⟨c1, c2, c4, c3.2, c3.1⟩]
                      rfl
                    · rw [if_neg c3, if_neg (fun z => c3 ⟨z.2.2.2.2, z.2.2.2.1⟩)]
                  · rw [if_neg c4, if_neg (fun z => c4 z.2.2.1)]
                · rw [if_neg c2, if_neg (fun z => c2 z.2.1)]
              · rw [if_neg c1, if_neg (fun z => c1 z.1)]
          · rw [if_neg (by omega)]
            simp only [Option.bind_some, if_true, utf_First.j0]
            unfold decR dec
            rw [na]
            simp only [decN, if_neg h1, if_neg h2, if_neg h3, if_neg h4]
theorem first_ev (s : ByteArray) : Ev (fun k => utf_First.f k s) (decR s.data.toList) :=
  ⟨5, fun k hk => by obtain ⟨j, rfl⟩ : ∃ j, k = j + 5 := ⟨k - 5, by omega⟩; exact first_k s j⟩
def ints (cs : List Nat) : List Int := cs.map fun c : Nat => (c : Int)
def chsR (acc : List Int) (l : List UInt8) : List Int × Int := match chs l with | some cs => (acc ++ ints cs, 0) | none => ([], 40)
theorem chsR_some {acc : List Int} {l : List UInt8} {cs : List Nat} (h : chs l = some cs) : chsR acc l = (acc ++ ints cs, 0) := by unfold chsR; rw [h]
theorem chsR_none {acc : List Int} {l : List UInt8} (h : chs l = none) : chsR acc l = ([], 40) := by unfold chsR; rw [h]
theorem chsR_step {acc : List Int} {l : List UInt8} {c n : Nat} (h : dec l = some (c, n)) : chsR acc l = chsR (acc ++ [(c : Int)]) (l.drop n) := by
  cases hr : chs (l.drop n) with
  | none => rw [chsR_none hr, chsR_none (by rw [chs_some h, hr]; rfl)]
  | some cs => rw [chsR_some hr, chsR_some (cs := c :: cs) (by rw [chs_some h, hr]; rfl)]; simp [ints]
theorem chars_l0 (n : Nat) : ∀ (s : ByteArray) (acc : List Int), s.size ≤ n → acc.length + s.size ≤ 1073741824 → Ev (fun k => utf_Chars.l0 k s acc) (chsR acc s.data.toList) := by
  induction n with
  | zero =>
    intro s acc hs _
    have h0 : s.data.toList = [] := List.length_eq_zero_iff.mp (by rw [← size_L]; omega)
    rw [h0, chsR_some chs_nil]
    refine Ev.step (f := fun _ => some _) (fun k => ?_) (Ev.now _)
    simp only [utf_Chars.l0]
    rw [if_pos (by rw [toList_L, h0])]
    simp [ints]
  | succ n ih =>
    intro s acc hs ha
    by_cases h0 : s.data.toList = []
    · rw [h0, chsR_some chs_nil]
      refine Ev.step (f := fun _ => some _) (fun k => ?_) (Ev.now _)
      simp only [utf_Chars.l0]
      rw [if_pos (by rw [toList_L, h0])]
      simp [ints]
    · cases hd : dec s.data.toList with
      | none =>
        rw [chsR_none (chs_none hd h0)]
        refine Ev.step (f := fun k => (utf_First.f k s).bind fun _ => some (([] : List Int), (40 : Int))) (fun k => ?_) (Ev.bind (first_ev s) (Ev.now _))
        simp only [utf_Chars.l0]
        rw [if_neg (by rw [toList_L]; exact h0)]
        cases hf : utf_First.f k s with
        | none => rfl
        | some x =>
          have h5 := at_rounds (g := fun k => utf_First.f k s) (fun k => utf_First.mono s k) (show k ≤ k + 5 by omega) hf
          rw [first_k, decR_none hd] at h5
          cases h5
          rfl
      | some x =>
        obtain ⟨c, m⟩ := x
        have hm := dec_le hd
        rw [← size_L] at hm
        rw [chsR_step hd]
        have h := ih (s.extract m s.size) (acc ++ [(c : Int)]) (by rw [size_L, post_L, List.length_drop, ← size_L]; omega) (by rw [size_L, post_L, List.length_drop, ← size_L, List.length_append]; simp; omega)
        rw [post_L] at h
        refine Ev.step (f := fun k => (utf_First.f k s).bind fun b => if b.2.2 = 0 then (if acc.length < 17592186044416 then (if 0 ≤ b.2.1 then (if b.2.1 ≤ (s.size : Int) then (utf_Chars.l0 k (s.extract (b.2.1 : Int).toNat s.size) (acc ++ [b.1])) else none) else none) else none) else some (([] : List Int), b.2.2)) (fun k => ?_) ?_
        · simp only [utf_Chars.l0]
          rw [if_neg (by rw [toList_L]; exact h0)]
        · refine Ev.bind (first_ev s) ?_
          rw [decR_some hd]
          refine Ev.congr (fun k => ?_) h
          simp only [if_true]
          rw [if_pos (by omega), if_pos (by omega), if_pos (by omega), Int.toNat_natCast]
theorem chars_ev (s : ByteArray) (hs : s.size ≤ 1073741824) : Ev (fun k => utf_Chars.f k s) (chsR [] s.data.toList) := by
  unfold utf_Chars.f
  exact chars_l0 s.size s [] (Nat.le_refl _) (by simpa using hs)
def ckR (l : List UInt8) : Int := match chs l with | some _ => 0 | none => 40
theorem ckR_eq (l : List UInt8) : ckR l = (chsR [] l).2 := by unfold ckR chsR; cases chs l <;> rfl
theorem ckR_zero {l : List UInt8} : ckR l = 0 ↔ ∃ cs, chs l = some cs := by
  unfold ckR
  cases chs l <;> simp
theorem check_ev (s : ByteArray) (hs : s.size ≤ 1073741824) : Ev (fun k => utf_Check.f k s) (ckR s.data.toList) := by
  unfold utf_Check.f
  refine Ev.bind (chars_ev s hs) ?_
  rw [ckR_eq]
  exact Ev.now _
end Go.Proofs.Ytgopphglkjdcaaa.Utf
end
/-! QtE -/
section
/- Elements: what the scanner tells of them; which data may be; what is parsed. -/
namespace Go.Proofs.Ytgopphglkjdcaaa.Qt
open Go Go.RowKit Go.Proofs.Ytgopphglkjdcaaa.Px Go.Proofs.YtgopphglkjdcaaaW.PrintWords Go.Proofs.Ytgopphglkjdcaaa.Str
abbrev PR := S37
abbrev EL := S35
def pars : Nat → List UInt8 → Option (List PR × List UInt8)
  | 0, _ => none
  | n + 1, l => if l.take 1 = [32] then (if (nmB (l.drop 1)).take 2 = [61, 34] then (val ((nmB (l.drop 1)).drop 2)).bind fun x => (pars n (x.2.drop 1)).map fun y => (⟨ofL (nmA (l.drop 1)), ofL x.1⟩ :: y.1, y.2) else none)
    else if l.take 1 = [93] then some ([], l.drop 1) else none
def elem (n : Nat) (l : List UInt8) : Option (EL × List UInt8) := (pars n (nmB l)).map fun y => (⟨ofL (nmA l), y.1⟩, y.2)
def elems : Nat → List UInt8 → Option (List EL × List UInt8)
  | 0, _ => none
  | n + 1, l => if l.take 1 = [91] then (elem (n + 1) (l.drop 1)).bind fun x => (elems n x.2).map fun y => (x.1 :: y.1, y.2) else some ([], l)
theorem take_one {l : List UInt8} {c : UInt8} (h : l.take 1 = [c]) : l = c :: l.drop 1 := by
  cases l with
  | nil => simp at h
  | cons b t => simp at h; simp [h]
theorem take_two {l : List UInt8} {c d : UInt8} (h : l.take 2 = [c, d]) : l = c :: d :: l.drop 2 := by
  cases l with
  | nil => simp at h
  | cons b t =>
    cases t with
    | nil => simp at h
    | cons e u => simp at h; simp [h]
theorem pars_len (n : Nat) : ∀ (l : List UInt8) {ps : List PR} {r : List UInt8}, pars n l = some (ps, r) → r.length < l.length ∧ ps.length ≤ l.length := by
  induction n with
  | zero => intro l ps r h; simp [pars] at h
  | succ n ih =>
    intro l ps r h
    rw [pars] at h
    split at h
    · rename_i h1
      have e1 := congrArg List.length (take_one h1)
      rw [List.length_cons] at e1
      split at h
      · rename_i h2
        obtain ⟨⟨v, q⟩, hv, h⟩ := Option.bind_eq_some_iff.mp h
        obtain ⟨⟨ps', r'⟩, hp, h⟩ := Option.map_eq_some_iff.mp h
        simp only at hp
        injection h with h3 h4
        simp only at h3 h4
        subst h3
        subst h4
        have h5 := (val_len _ hv).1
        have h6 := ih _ hp
        have h7 := nmB_len (l.drop 1)
        rw [List.length_drop] at h5 h6
        rw [List.length_cons]
        omega
      · cases h
    · split at h
      · rename_i h1
        have e1 := congrArg List.length (take_one h1)
        rw [List.length_cons] at e1
        injection h with h
        injection h with h3 h4
        subst h3
        subst h4
        rw [List.length_nil]
        omega
      · cases h
/-- What the scanner's loop tells of parameters. -/
def fits (m : ByteArray) (acc : List PR) (o : Option (List PR × List UInt8)) (y : ByteArray × List PR × ByteArray × Bool) : Prop := match o with
  | some x => y = (m, acc ++ x.1, ofL x.2, false)
  | none => y.2.2.2 = true
theorem l0_bad (s m : ByteArray) (acc : List PR) : ∃ y, Ev (fun k => quote_scanner_element.l0 k s true m acc) y ∧ y.2.2.2 = true := by
  obtain ⟨r, _, hr⟩ := take_bad s ⟨#[93]⟩
  refine ⟨(m, acc, r, true), Ev.step (f := fun _ => some (m, acc, r, true)) (fun k => ?_) (Ev.now _), rfl⟩
  simp only [quote_scanner_element.l0]
  rw [at_bad]
  simp only [Option.bind_some]
  rw [if_neg (by simp), hr]
  rfl
theorem value_bad (s : ByteArray) (hs : s.size ≤ 1073741824) : ∃ v q : ByteArray, quote_scanner_value.f s true = some (v, q, true) := by
  rw [value_f s true hs]
  cases val s.data.toList with
  | none => exact ⟨_, _, rfl⟩
  | some x => exact ⟨_, _, rfl⟩
theorem l0_ev (n : Nat) : ∀ (s m : ByteArray) (acc : List PR), s.size < n → s.size ≤ 1073741824 → acc.length + s.size ≤ 2147483648 →
    ∃ y, Ev (fun k => quote_scanner_element.l0 k s false m acc) y ∧ fits m acc (pars n s.data.toList) y := by
  induction n with
  | zero => intro s m acc h; omega
  | succ n ih =>
    intro s m acc hn hs ha
    rw [pars]
    by_cases h1 : s.data.toList.take 1 = [32]
    · rw [if_pos h1]
      have e1 := take_one h1
      have z1 := congrArg List.length e1
      rw [List.length_cons, ← size_L] at z1
      generalize s.data.toList.drop 1 = t at e1 z1 ⊢
      have hat : quote_scanner_at.f s false ⟨#[32]⟩ = some (true, s, false) := by rw [at_f]; show some (decide (s.data.toList.take 1 = [32]), s, false) = _; rw [decide_eq_true h1]
      have htk : quote_scanner_take.f s false ⟨#[32]⟩ = some (ofL t, false) := take_yes false (by rw [e1]; rfl)
      have hnm := name_f (ofL t) false (by rw [ofL_size]; omega)
      rw [ofL_L] at hnm
      have hB := nmB_len t
      have hA := nmA_len t
      by_cases h2 : (nmB t).take 2 = [61, 34]
      · rw [if_pos h2]
        have e2 := take_two h2
        have z2 := congrArg List.length e2
        rw [List.length_cons, List.length_cons] at z2
        generalize (nmB t).drop 2 = u at e2 z2 ⊢
        have htk2 : quote_scanner_take.f (ofL (nmB t)) false ⟨#[61, 34]⟩ = some (ofL u, false) := take_yes false (by rw [ofL_L, e2]; rfl)
        have hv := value_f (ofL u) false (by rw [ofL_size]; omega)
        rw [ofL_L] at hv
        cases hval : val u with
        | none =>
          rw [hval] at hv
          simp only at hv
          obtain ⟨r, _, hr⟩ := take_bad (ofL u) ⟨#[34]⟩
          obtain ⟨y, hy, hyb⟩ := l0_bad r m (acc ++ [(⟨ofL (nmA t), ⟨#[]⟩⟩ : PR)])
          refine ⟨y, Ev.step (fun k => ?_) hy, hyb⟩
          simp only [quote_scanner_element.l0]
          rw [hat]
          simp only [Option.bind_some, if_true]
          rw [htk]
          simp only [Option.bind_some]
          rw [hnm]
          simp only [Option.bind_some]
          rw [htk2]
          simp only [Option.bind_some]
          rw [hv]
          simp only [Option.bind_some]
          rw [hr]
          simp only [Option.bind_some]
          rw [if_pos (by omega)]
        | some x =>
          obtain ⟨v, q⟩ := x
          rw [hval] at hv
          simp only at hv
          have hl := val_len _ hval
          obtain ⟨q', rfl⟩ : ∃ q', q = 34 :: q' := by
            cases q with
            | nil => simp at hl
            | cons a q => simp at hl; exact ⟨q, by rw [hl.2]⟩
          rw [List.length_cons] at hl
          have htk3 : quote_scanner_take.f (ofL (34 :: q')) false ⟨#[34]⟩ = some (ofL q', false) := take_yes false (by rw [ofL_L]; rfl)
          obtain ⟨y, hy, hf⟩ := ih (ofL q') m (acc ++ [(⟨ofL (nmA t), ofL v⟩ : PR)]) (by rw [ofL_size]; omega) (by rw [ofL_size]; omega) (by rw [ofL_size, List.length_append, List.length_cons, List.length_nil]; omega)
          refine ⟨y, Ev.step (fun k => ?_) hy, ?_⟩
          · simp only [quote_scanner_element.l0]
            rw [hat]
            simp only [Option.bind_some, if_true]
            rw [htk]
            simp only [Option.bind_some]
            rw [hnm]
            simp only [Option.bind_some]
            rw [htk2]
            simp only [Option.bind_some]
            rw [hv]
            simp only [Option.bind_some]
            rw [htk3]
            simp only [Option.bind_some]
            rw [if_pos (by omega)]
          · rw [ofL_L] at hf
            simp only [Option.bind_some, List.drop_succ_cons, List.drop_zero]
            cases hp : pars n q' with
            | none => rw [hp] at hf; exact hf
            | some x =>
              rw [hp] at hf
              simp only [fits, Option.map_some] at hf ⊢
              rw [hf, List.append_assoc]
              rfl
      · rw [if_neg h2]
        have htk2 : quote_scanner_take.f (ofL (nmB t)) false ⟨#[61, 34]⟩ = some (ofL (nmB t), true) := take_no false (by rw [ofL_L]; exact h2)
        obtain ⟨v, q, hv⟩ := value_bad (ofL (nmB t)) (by rw [ofL_size]; omega)
        obtain ⟨r, _, hr⟩ := take_bad q ⟨#[34]⟩
        obtain ⟨y, hy, hyb⟩ := l0_bad r m (acc ++ [(⟨ofL (nmA t), v⟩ : PR)])
        refine ⟨y, Ev.step (fun k => ?_) hy, hyb⟩
        simp only [quote_scanner_element.l0]
        rw [hat]
        simp only [Option.bind_some, if_true]
        rw [htk]
        simp only [Option.bind_some]
        rw [hnm]
        simp only [Option.bind_some]
        rw [htk2]
        simp only [Option.bind_some]
        rw [hv]
        simp only [Option.bind_some]
        rw [hr]
        simp only [Option.bind_some]
        rw [if_pos (by omega)]
    · rw [if_neg h1]
      have hat : quote_scanner_at.f s false ⟨#[32]⟩ = some (false, s, false) := by rw [at_f]; show some (decide (s.data.toList.take 1 = [32]), s, false) = _; rw [decide_eq_false h1]
      by_cases h2 : s.data.toList.take 1 = [93]
      · rw [if_pos h2]
        have htk : quote_scanner_take.f s false ⟨#[93]⟩ = some (ofL (s.data.toList.drop 1), false) := take_yes false (take_one h2)
        refine ⟨(m, acc, ofL (s.data.toList.drop 1), false), Ev.step (f := fun _ => some _) (fun k => ?_) (Ev.now _), by simp [fits]⟩
        simp only [quote_scanner_element.l0]
        rw [hat]
        simp only [Option.bind_some]
        rw [if_neg (by simp), htk]
        rfl
      · rw [if_neg h2]
        have htk : quote_scanner_take.f s false ⟨#[93]⟩ = some (s, true) := take_no false h2
        refine ⟨(m, acc, s, true), Ev.step (f := fun _ => some _) (fun k => ?_) (Ev.now _), rfl⟩
        simp only [quote_scanner_element.l0]
        rw [hat]
        simp only [Option.bind_some]
        rw [if_neg (by simp), htk]
        rfl
def fitE (o : Option (EL × List UInt8)) (y : ByteArray × List PR × ByteArray × Bool) : Prop := match o with
  | some x => y = (x.1.f0, x.1.f1, ofL x.2, false)
  | none => y.2.2.2 = true
theorem element_ev (n : Nat) (s : ByteArray) (t : List UInt8) (ht : s.data.toList = 91 :: t) (hn : s.size ≤ n) (hs : s.size ≤ 1073741824) : ∃ y, Ev (fun k => quote_scanner_element.f k s false) y ∧ fitE (elem n t) y := by
  have z1 := congrArg List.length ht
  rw [List.length_cons, ← size_L] at z1
  have htk : quote_scanner_take.f s false ⟨#[91]⟩ = some (ofL t, false) := take_yes false (by rw [ht]; rfl)
  have hnm := name_f (ofL t) false (by rw [ofL_size]; omega)
  rw [ofL_L] at hnm
  have hB := nmB_len t
  obtain ⟨y, hy, hf⟩ := l0_ev n (ofL (nmB t)) (ofL (nmA t)) [] (by rw [ofL_size]; omega) (by rw [ofL_size]; omega) (by rw [ofL_size, List.length_nil]; omega)
  refine ⟨y, Ev.congr (fun k => ?_) hy, ?_⟩
  · unfold quote_scanner_element.f
    rw [htk]
    simp only [Option.bind_some]
    rw [hnm]
    rfl
  · rw [ofL_L] at hf
    unfold elem
    cases hp : pars n (nmB t) with
    | none => rw [hp] at hf; exact hf
    | some x => rw [hp] at hf; exact hf
-- ---- which data may be
def okP (p : PR) : Bool := isName p.f0.data.toList && decide (Utf.ckR p.f1.data.toList = 0)
def okE (x : EL) : Bool := isName x.f0.data.toList && (decide (x.f1.length ≤ 4096) && x.f1.all okP)
def ckGo : List (List UInt8) → List EL → Int
  | _, [] => 0
  | seen, x :: l => if okE x = true ∧ x.f0.data.toList ∉ seen then ckGo (x.f0.data.toList :: seen) l else 100
def ckD (l : List EL) : Int := if 4096 < l.length then 100 else ckGo [] l
def slim (l : List EL) : Prop := ∀ x ∈ l, x.f0.size ≤ 1073741824 ∧ ∀ p ∈ x.f1, p.f0.size ≤ 1073741824 ∧ p.f1.size ≤ 1073741824
theorem ps_ev : ∀ l : List PR, (∀ p ∈ l, p.f0.size ≤ 1073741824 ∧ p.f1.size ≤ 1073741824) → Ev (fun k => quote_Check.ps k l) (l.all okP)
  | [], _ => Ev.now _
  | p :: l, h => by
    have hp := h p List.mem_cons_self
    have ih := ps_ev l (fun x hx => h x (List.mem_cons_of_mem p hx))
    rw [List.all_cons]
    unfold okP
    cases hn : isName p.f0.data.toList with
    | false =>
      refine Ev.congr (f := fun _ => some false) (fun k => ?_) (Ev.now _)
      rw [quote_Check.ps, isName_f _ hp.1, hn, Option.bind_some, if_pos rfl]
    | true =>
      refine Ev.congr (f := fun k => (utf_Check.f k p.f1).bind fun e => if e = 0 then quote_Check.ps k l else some false) (fun k => ?_) (Ev.bind (Utf.check_ev p.f1 hp.2) ?_)
      · rw [quote_Check.ps, isName_f _ hp.1, hn, Option.bind_some, if_neg (by simp)]
      · by_cases he : Utf.ckR p.f1.data.toList = 0
        · rw [decide_eq_true he]
          exact Ev.congr (fun k => if_pos he) ih
        · rw [decide_eq_false he]
          exact Ev.congr (f := fun _ => some false) (fun k => if_neg he) (Ev.now _)
theorem ckgo_ev : ∀ (l : List EL) (seen : List (List UInt8)), slim l → Ev (fun k => quote_Check.go k seen l) (ckGo seen l)
  | [], _, _ => Ev.now _
  | x :: l, seen, h => by
    have hx := h x List.mem_cons_self
    have ih := ckgo_ev l (x.f0.data.toList :: seen) (fun y hy => h y (List.mem_cons_of_mem x hy))
    rw [ckGo]
    unfold okE
    cases hn : isName x.f0.data.toList with
    | false =>
      rw [if_neg (by simp)]
      refine Ev.congr (f := fun _ => some 100) (fun k => ?_) (Ev.now _)
      rw [quote_Check.go, isName_f _ hx.1, hn, Option.bind_some, if_pos rfl]
    | true =>
      by_cases hm : x.f0.data.toList ∈ seen
      · rw [if_neg (fun z => z.2 hm)]
        refine Ev.congr (f := fun _ => some 100) (fun k => ?_) (Ev.now _)
        rw [quote_Check.go, isName_f _ hx.1, hn, Option.bind_some, if_neg (by simp), if_pos hm]
      · by_cases hl : 4096 < x.f1.length
        · rw [if_neg (by rw [decide_eq_false (by omega)]; simp)]
          refine Ev.congr (f := fun _ => some 100) (fun k => ?_) (Ev.now _)
          rw [quote_Check.go, isName_f _ hx.1, hn, Option.bind_some, if_neg (by simp), if_neg hm, if_pos hl]
        · refine Ev.congr (f := fun k => (quote_Check.ps k x.f1).bind fun b => if b = false then some 100 else quote_Check.go k (x.f0.data.toList :: seen) l) (fun k => ?_) (Ev.bind (ps_ev x.f1 hx.2) ?_)
          · rw [quote_Check.go, isName_f _ hx.1, hn, Option.bind_some, if_neg (by simp), if_neg hm, if_neg hl]
          · rw [decide_eq_true (by omega)]
            cases hb : x.f1.all okP with
            | false =>
              rw [if_neg (by simp)]
              exact Ev.congr (f := fun _ => some 100) (fun k => if_pos rfl) (Ev.now _)
            | true =>
              rw [if_pos ⟨by simp, hm⟩]
              exact Ev.congr (fun k => if_neg (by simp)) ih
theorem check_ev (l : List EL) (h : slim l) : Ev (fun k => quote_Check.f k l) (ckD l) := by
  unfold quote_Check.f ckD
  by_cases hl : 4096 < l.length
  · rw [if_pos hl]
    exact Ev.congr (f := fun _ => some 100) (fun k => if_pos hl) (Ev.now _)
  · rw [if_neg hl]
    exact Ev.congr (fun k => if_neg hl) (ckgo_ev l [] h)
-- ---- what is parsed is slim
theorem val_size {l v q : List UInt8} (h : val l = some (v, q)) : v.length ≤ l.length := by have := (val_len l h).1; omega
theorem pars_slim (n : Nat) : ∀ (l : List UInt8) {ps : List PR} {r : List UInt8}, l.length ≤ 1073741824 → pars n l = some (ps, r) → ∀ p ∈ ps, p.f0.size ≤ 1073741824 ∧ p.f1.size ≤ 1073741824 := by
  induction n with
  | zero => intro l ps r _ h; simp [pars] at h
  | succ n ih =>
    intro l ps r hl h
    rw [pars] at h
    split at h
    · rename_i h1
      have hA := nmA_len (l.drop 1)
      have hB := nmB_len (l.drop 1)
      rw [List.length_drop] at hA hB
      split at h
      · rename_i h2
        obtain ⟨⟨v, q⟩, hv, h⟩ := Option.bind_eq_some_iff.mp h
        obtain ⟨⟨ps', r'⟩, hp, h⟩ := Option.map_eq_some_iff.mp h
        simp only at hp
        injection h with h3 h4
        simp only at h3 h4
        subst h3
        have h5 := (val_len _ hv).1
        rw [List.length_drop] at h5
        intro p hp'
        rcases List.mem_cons.mp hp' with rfl | hp'
        · simp only [ofL_size]
          omega
        · exact ih _ (by rw [List.length_drop]; omega) hp p hp'
      · cases h
    · split at h
      · injection h with h
        injection h with h3 h4
        subst h3
        intro p hp
        cases hp
      · cases h
theorem elem_len {n : Nat} {l : List UInt8} {x : EL} {r : List UInt8} (h : elem n l = some (x, r)) : r.length < l.length := by
  unfold elem at h
  obtain ⟨⟨ps, r'⟩, hp, h⟩ := Option.map_eq_some_iff.mp h
  injection h with h1 h2
  simp only at h2
  subst h2
  have := (pars_len n _ hp).1
  have := nmB_len l
  omega
theorem elems_slim (n : Nat) : ∀ (l : List UInt8) {xs : List EL} {r : List UInt8}, l.length ≤ 1073741824 → elems n l = some (xs, r) → slim xs := by
  induction n with
  | zero => intro l xs r _ h; simp [elems] at h
  | succ n ih =>
    intro l xs r hl h
    rw [elems] at h
    split at h
    · obtain ⟨⟨x, q⟩, hx, h⟩ := Option.bind_eq_some_iff.mp h
      obtain ⟨⟨xs', r'⟩, hr, h⟩ := Option.map_eq_some_iff.mp h
      simp only at hr
      injection h with h3 h4
      simp only at h3 h4
      subst h3
      have hq := elem_len hx
      rw [List.length_drop] at hq
      intro y hy
      rcases List.mem_cons.mp hy with rfl | hy
      · unfold elem at hx
        obtain ⟨⟨ps, r2⟩, hp, hx⟩ := Option.map_eq_some_iff.mp hx
        injection hx with h1 h2
        simp only at h1
        subst h1
        have hA := nmA_len (l.drop 1)
        have hB := nmB_len (l.drop 1)
        rw [List.length_drop] at hA hB
        exact ⟨by simp only [ofL_size]; omega, pars_slim _ _ (by omega) hp⟩
      · exact ih _ (by omega) hr y hy
    · injection h with h
      injection h with h3 h4
      subst h3
      intro y hy
      cases hy
-- ---- Parse
abbrev RES := List EL × ByteArray × Int
def err : RES := ([], ⟨#[]⟩, 100)
def fin (xs : List EL) (r : List UInt8) : RES := if xs = [] then err else if ckD xs = 0 then (xs, ofL r, 0) else err
def parsR (l : List UInt8) : RES := if l.take 1 = [45] then ([], ofL (l.drop 1), 0) else match elems (l.length + 1) l with
  | some x => fin x.1 x.2
  | none => err
theorem fin_ev (s : ByteArray) (xs : List EL) (hx : slim xs) : Ev (fun k => quote_Parse.fin k s false xs) (fin xs s.data.toList) := by
  unfold quote_Parse.fin fin
  by_cases h0 : xs = []
  · subst h0
    exact Ev.congr (f := fun _ => some err) (fun k => by rw [if_neg (by simp), if_pos (by rfl)]; rfl) (Ev.now _)
  · rw [if_neg h0]
    have hl : ¬ (xs.length : Int) = 0 := fun z => h0 (List.length_eq_zero_iff.mp (by omega))
    refine Ev.congr (fun k => by rw [if_neg (by simp), if_neg hl]) (Ev.bind (check_ev xs hx) ?_)
    by_cases hc : ckD xs = 0
    · rw [if_pos hc, if_pos hc, ofL_of]
      exact Ev.now (xs, s, (0 : Int))
    · rw [if_neg hc, if_neg hc]
      exact Ev.now err
theorem parse_bad (s : ByteArray) (xs : List EL) : Ev (fun k => quote_Parse.l k s true xs) err := by
  refine Ev.step (f := fun _ => some err) (fun k => ?_) (Ev.now _)
  rw [quote_Parse.l, at_bad]
  simp only [Option.bind_some]
  rw [if_neg (by simp), quote_Parse.fin, if_pos rfl]
  rfl
theorem parse_l (n : Nat) : ∀ (s : ByteArray) (acc : List EL), s.size < n → s.size ≤ 1073741824 → acc.length + s.size ≤ 2147483648 → slim acc →
    Ev (fun k => quote_Parse.l k s false acc) (match elems n s.data.toList with | some x => fin (acc ++ x.1) x.2 | none => err) := by
  induction n with
  | zero => intro s acc h; omega
  | succ n ih =>
    intro s acc hn hs ha hsl
    have hsl0 := @elems_slim (n + 1) s.data.toList
    rw [elems] at hsl0 ⊢
    by_cases h1 : s.data.toList.take 1 = [91]
    · rw [if_pos h1] at hsl0 ⊢
      have e1 := take_one h1
      have z1 := congrArg List.length e1
      rw [List.length_cons, ← size_L] at z1
      have hat : quote_scanner_at.f s false ⟨#[91]⟩ = some (true, s, false) := by rw [at_f]; show some (decide (s.data.toList.take 1 = [91]), s, false) = _; rw [decide_eq_true h1]
      generalize s.data.toList.drop 1 = t at e1 z1 hsl0 ⊢
      obtain ⟨⟨y1, y2, y3, y4⟩, hy, hf⟩ := element_ev (n + 1) s t e1 (by omega) hs
      cases he : elem (n + 1) t with
      | none =>
        rw [he] at hf
        have hf : y4 = true := hf
        subst hf
        refine Ev.step (f := fun k => (quote_scanner_element.f k s false).bind fun x => if acc.length < 3518437208883 then quote_Parse.l k x.2.2.1 x.2.2.2 (acc ++ [⟨x.1, x.2.1⟩]) else none) (fun k => ?_) (Ev.bind hy ?_)
        · rw [quote_Parse.l, hat]
          simp only [Option.bind_some, if_true]
        · exact Ev.congr (fun k => if_pos (by omega)) (parse_bad y3 _)
      | some x =>
        obtain ⟨x, q⟩ := x
        rw [he] at hf hsl0
        simp only [fitE, Prod.mk.injEq] at hf
        obtain ⟨rfl, rfl, rfl, rfl⟩ := hf
        have hq := elem_len he
        have hx1 : slim [x] := by
          intro y hy
          rw [List.mem_singleton] at hy
          subst hy
          unfold elem at he
          obtain ⟨⟨ps, r2⟩, hp, he⟩ := Option.map_eq_some_iff.mp he
          injection he with h1 h2
          simp only at h1
          subst h1
          have hA := nmA_len t
          have hB := nmB_len t
          exact ⟨by simp only [ofL_size]; omega, pars_slim _ _ (by omega) hp⟩
        have hsl2 : slim (acc ++ [x]) := by
          intro y hy
          rcases List.mem_append.mp hy with hy | hy
          · exact hsl y hy
          · exact hx1 y hy
        have ih := ih (ofL q) (acc ++ [x]) (by rw [ofL_size]; omega) (by rw [ofL_size]; omega) (by rw [ofL_size, List.length_append, List.length_cons, List.length_nil]; omega) hsl2
        refine Ev.step (f := fun k => (quote_scanner_element.f k s false).bind fun x => if acc.length < 3518437208883 then quote_Parse.l k x.2.2.1 x.2.2.2 (acc ++ [⟨x.1, x.2.1⟩]) else none) (fun k => ?_) (Ev.bind hy ?_)
        · rw [quote_Parse.l, hat]
          simp only [Option.bind_some, if_true]
        · refine Ev.congr (f := fun k => quote_Parse.l k (ofL q) false (acc ++ [x])) (fun k => if_pos (by omega)) ?_
          rw [ofL_L] at ih
          simp only [Option.bind_some]
          cases hr : elems n q with
          | none => rw [hr] at ih; exact ih
          | some z =>
            rw [hr] at ih
            simp only [Option.map_some] at ih ⊢
            rw [List.append_assoc] at ih
            exact ih
    · rw [if_neg h1]
      have hat : quote_scanner_at.f s false ⟨#[91]⟩ = some (false, s, false) := by rw [at_f]; show some (decide (s.data.toList.take 1 = [91]), s, false) = _; rw [decide_eq_false h1]
      refine Ev.step (f := fun k => quote_Parse.fin k s false acc) (fun k => ?_) ?_
      · rw [quote_Parse.l, hat]
        simp only [Option.bind_some]
        rw [if_neg (by simp)]
      · simp only [List.append_nil]
        exact fin_ev s acc hsl
theorem parse_ev (s : ByteArray) (hs : s.size ≤ 1073741824) : Ev (fun k => quote_Parse.f k s) (parsR s.data.toList) := by
  unfold quote_Parse.f parsR
  rw [Pre.cut_f]
  unfold Pre.cutR
  by_cases h : s.data.toList.take 1 = [45]
  · rw [if_pos h]
    refine Ev.congr (f := fun _ => some _) (fun k => ?_) (Ev.now _)
    rw [if_pos (show s.data.toList.take (⟨#[45]⟩ : ByteArray).data.toList.length = (⟨#[45]⟩ : ByteArray).data.toList from h)]
    rfl
  · rw [if_neg h]
    have hp := parse_l (s.data.toList.length + 1) s [] (by rw [← size_L]; omega) hs (by rw [List.length_nil]; omega) (fun x hx => by cases hx)
    simp only [List.nil_append] at hp
    refine Ev.congr (fun k => ?_) hp
    rw [if_neg (show ¬ s.data.toList.take (⟨#[45]⟩ : ByteArray).data.toList.length = (⟨#[45]⟩ : ByteArray).data.toList from h)]
    rfl
end Go.Proofs.Ytgopphglkjdcaaa.Qt
end
/-! QtS -/
section
/- Data that are the same; what is got of data; the chapter's example. -/
namespace Go.Proofs.Ytgopphglkjdcaaa.Qt
open Go Go.RowKit Go.Proofs.Ytgopphglkjdcaaa.Px Go.Proofs.YtgopphglkjdcaaaW.PrintWords Go.Proofs.Ytgopphglkjdcaaa.Str
theorem rdP (a : List PR) (i : Nat) (h : i < a.length) : rd_T37 a (i : Int) = a[i] := by
  unfold rd_T37
  rw [Int.toNat_natCast, List.getD_eq_getElem?_getD, List.getElem?_eq_getElem h, Option.getD_some]
theorem rdE (a : List EL) (i : Nat) (h : i < a.length) : rd_T35 a (i : Int) = a[i] := by
  unfold rd_T35
  rw [Int.toNat_natCast, List.getD_eq_getElem?_getD, List.getElem?_eq_getElem h, Option.getD_some]
def eqP (p q : PR) : Bool := (p.f0.toList == q.f0.toList) && (p.f1.toList == q.f1.toList)
def eqPs : List PR → List PR → Bool
  | [], [] => true
  | p :: l, q :: m => eqP p q && eqPs l m
  | _, _ => false
def eqE (x y : EL) : Bool := (x.f0.toList == y.f0.toList) && eqPs x.f1 y.f1
def eqEs : List EL → List EL → Bool
  | [], [] => true
  | x :: l, y :: m => eqE x y && eqEs l m
  | _, _ => false
theorem eqP_iff {p q : PR} : eqP p q = true ↔ p = q := by
  obtain ⟨p0, p1⟩ := p
  obtain ⟨q0, q1⟩ := q
  unfold eqP
  simp only [Bool.and_eq_true, beq_iff_eq, toList_iff]
  constructor
  · rintro ⟨rfl, rfl⟩; rfl
  · intro h; injection h with h1 h2; exact ⟨h1, h2⟩
theorem eqPs_iff : ∀ {a b : List PR}, eqPs a b = true ↔ a = b
  | [], [] => by simp [eqPs]
  | p :: l, q :: m => by
    rw [eqPs, Bool.and_eq_true, eqP_iff, eqPs_iff, List.cons.injEq]
  | [], _ :: _ => by simp [eqPs]
  | _ :: _, [] => by simp [eqPs]
theorem eqE_iff {p q : EL} : eqE p q = true ↔ p = q := by
  obtain ⟨p0, p1⟩ := p
  obtain ⟨q0, q1⟩ := q
  unfold eqE
  simp only [Bool.and_eq_true, beq_iff_eq, toList_iff, eqPs_iff]
  constructor
  · rintro ⟨rfl, rfl⟩; rfl
  · intro h; injection h with h1 h2; exact ⟨h1, h2⟩
theorem eqEs_iff : ∀ {a b : List EL}, eqEs a b = true ↔ a = b
  | [], [] => by simp [eqEs]
  | p :: l, q :: m => by
    rw [eqEs, Bool.and_eq_true, eqE_iff, eqEs_iff, List.cons.injEq]
  | [], _ :: _ => by simp [eqEs]
  | _ :: _, [] => by simp [eqEs]
theorem eqPs_len {a b : List PR} (h : a.length ≠ b.length) : eqPs a b = false := by
  rw [Bool.eq_false_iff]
  intro z
  exact h (by rw [eqPs_iff.mp z])
theorem eqEs_len {a b : List EL} (h : a.length ≠ b.length) : eqEs a b = false := by
  rw [Bool.eq_false_iff]
  intro z
  exact h (by rw [eqEs_iff.mp z])
theorem params_l0 (a b : List PR) (hl : a.length = b.length) (ha : a.length ≤ 4611686018427387904) (d : Nat) : ∀ i : Nat, i + d = a.length → Ev (fun k => api_Param.l0 k a b (a.length : Int) (i : Int)) (eqPs (a.drop i) (b.drop i)) := by
  induction d with
  | zero =>
    intro i hi
    refine Ev.step (f := fun _ => some true) (fun k => ?_) ?_
    · simp only [api_Param.l0]
      rw [if_neg (by omega)]
    · rw [List.drop_eq_nil_of_le (by omega), List.drop_eq_nil_of_le (by omega)]
      exact Ev.now _
  | succ d ih =>
    intro i hi
    have h1 : i < a.length := by omega
    have h2 : i < b.length := by omega
    rw [List.drop_eq_getElem_cons h1, List.drop_eq_getElem_cons h2, eqPs]
    have key : ∀ k, api_Param.l0 (k + 1) a b (a.length : Int) (i : Int) = if eqP a[i] b[i] = true then api_Param.l0 k a b (a.length : Int) ((i + 1 : Nat) : Int) else some false := by
      intro k
      simp only [api_Param.l0]
      rw [if_pos (by omega), if_pos (by omega), if_pos (by omega), if_pos (by omega), rdP a i h1, rdP b i h2, wrap64_id (by omega) (by omega)]
      unfold eqP
      cases (a[i].f0.toList == b[i].f0.toList) <;> cases (a[i].f1.toList == b[i].f1.toList) <;> simp
    cases he : eqP a[i] b[i] with
    | true => exact Ev.step (fun k => by rw [key k, if_pos he]) (ih (i + 1) (by omega))
    | false => exact Ev.step (f := fun _ => some false) (fun k => by rw [key k, if_neg (by rw [he]; simp)]) (Ev.now _)
theorem params_ev (a b : List PR) (ha : a.length ≤ 4611686018427387904) : Ev (fun k => api_Param.f k a b) (eqPs a b) := by
  unfold api_Param.f
  by_cases hl : a.length = b.length
  · exact Ev.congr (fun k => if_pos (by omega)) (params_l0 a b hl ha a.length 0 (by omega))
  · rw [eqPs_len hl]
    exact Ev.congr (f := fun _ => some false) (fun k => if_neg (by omega)) (Ev.now _)
theorem sameOne_ev (x y : EL) (hx : x.f1.length ≤ 4611686018427387904) : Ev (fun k => quote_Same.one k x y) (eqE x y) := by
  unfold quote_Same.one eqE
  by_cases h : x.f0.toList = y.f0.toList
  · rw [beq_iff_eq.mpr h]
    exact Ev.congr (fun k => if_pos h) (params_ev x.f1 y.f1 hx)
  · rw [beq_eq_false_iff_ne.mpr h]
    exact Ev.congr (f := fun _ => some false) (fun k => if_neg h) (Ev.now _)
theorem sameGo_ev : ∀ a b : List EL, a.length = b.length → (∀ x ∈ a, x.f1.length ≤ 4611686018427387904) → Ev (fun k => quote_Same.go k a b) (eqEs a b)
  | [], [], _, _ => by
    refine Ev.congr (f := fun _ => some true) (fun k => ?_) (Ev.now _)
    rw [quote_Same.go]
    simp
  | x :: l, y :: m, hl, h => by
    have ih := sameGo_ev l m (by simpa using hl) (fun z hz => h z (List.mem_cons_of_mem x hz))
    refine Ev.congr (fun k => by rw [quote_Same.go]) (Ev.bind (sameOne_ev x y (h x List.mem_cons_self)) ?_)
    rw [eqEs]
    cases eqE x y with
    | true => exact Ev.congr (fun k => if_pos rfl) ih
    | false => exact Ev.congr (f := fun _ => some false) (fun k => if_neg (by simp)) (Ev.now _)
  | [], _ :: _, hl, _ => by simp at hl
  | _ :: _, [], hl, _ => by simp at hl
theorem same_ev (a b : List EL) (ha : a.length ≤ 1073741824) (h : ∀ x ∈ a, x.f1.length ≤ 4611686018427387904) : Ev (fun k => quote_Same.f k a b) (eqEs a b) := by
  unfold quote_Same.f
  by_cases hl : a.length = b.length
  · exact Ev.congr (fun k => by rw [if_pos ha, if_pos (by omega)]) (sameGo_ev a b hl h)
  · rw [eqEs_len hl]
    exact Ev.congr (f := fun _ => some false) (fun k => by rw [if_pos ha, if_neg (by omega)]) (Ev.now _)
theorem ascii_ck (cs : List Nat) (h : ∀ c ∈ cs, c < 128) : Utf.ckR (cs.map UInt8.ofNat) = 0 := by
  rw [Utf.ckR_zero]
  refine ⟨cs, ?_⟩
  have e : cs.map UInt8.ofNat = Utf.encs cs := by
    unfold Utf.encs
    induction cs with
    | nil => rfl
    | cons c cs ih =>
      rw [List.flatMap_cons, List.map_cons, Utf.enc_ascii c (h c List.mem_cons_self), ih (fun x hx => h x (List.mem_cons_of_mem c hx))]
      rfl
  rw [e]
  exact Utf.chs_all cs (fun c hc => ⟨by have := h c hc; omega, .inl (by have := h c hc; omega)⟩)
def exL : List UInt8 := [91, 97, 32, 98, 61, 34, 99, 92, 93, 34, 93, 120]
def exE : List EL := [⟨⟨#[97]⟩, [⟨⟨#[98]⟩, ⟨#[99, 93]⟩⟩]⟩]
theorem ex_elems : elems (exL.length + 1) exL = some (exE, [120]) := by rfl
theorem ex_ck : ckD exE = 0 := by
  have h := ascii_ck [99, 93] (by decide)
  have h2 : okE ⟨⟨#[97]⟩, [⟨⟨#[98]⟩, ⟨#[99, 93]⟩⟩]⟩ = true := by
    unfold okE
    have e : okP ⟨⟨#[98]⟩, ⟨#[99, 93]⟩⟩ = true := by
      unfold okP
      rw [show Utf.ckR (⟨#[99, 93]⟩ : ByteArray).data.toList = 0 from h]
      rfl
    rw [List.all_cons, e]
    rfl
  unfold ckD exE
  rw [if_neg (by simp), ckGo, if_pos ⟨h2, by simp⟩]
  rfl
theorem ex_pars : parsR exL = (exE, ofL [120], 0) := by
  unfold parsR
  rw [if_neg (by decide), ex_elems]
  show fin exE [120] = _
  unfold fin
  rw [if_neg (by simp [exE]), if_pos ex_ck]
theorem works_ev : Ev (fun k => gonglaw10_works.f k) true := by
  have hp := parse_ev ⟨#[91, 97, 32, 98, 61, 34, 99, 92, 93, 34, 93, 120]⟩ (by decide)
  rw [show parsR (⟨#[91, 97, 32, 98, 61, 34, 99, 92, 93, 34, 93, 120]⟩ : ByteArray).data.toList = (exE, ofL [120], 0) from ex_pars] at hp
  unfold gonglaw10_works.f
  refine Ev.bind hp ?_
  have hs := same_ev exE exE (by simp [exE]) (by intro x hx; simp [exE] at hx; subst hx; simp)
  rw [eqEs_iff.mpr rfl] at hs
  refine Ev.congr (fun k => ?_) (Ev.bind hs (Ev.now true))
  rw [if_pos rfl, if_pos (by rw [toList_L]; rfl)]
  rfl
theorem esc_count (l : List UInt8) : (esc l).length = l.length + (l.count 92 + l.count 93 + l.count 34) := by
  induction l with
  | nil => rfl
  | cons b l ih =>
    have e : esc (b :: l) = one b ++ esc l := by unfold esc; rw [List.flatMap_cons]
    rw [e, List.length_append, one_len, ih, List.length_cons, List.count_cons, List.count_cons, List.count_cons]
    by_cases h : sp b = true
    · rw [if_pos h]
      have h3 := sp_byte.mp h
      rcases h3 with h3 | h3 | h3
      · have : b = 34 := UInt8.toNat_inj.mp h3
        subst this
        simp
        omega
      · have : b = 93 := UInt8.toNat_inj.mp h3
        subst this
        simp
        omega
      · have : b = 92 := UInt8.toNat_inj.mp h3
        subst this
        simp
        omega
    · rw [if_neg h]
      have hz : ∀ c : UInt8, sp c = true → (b == c) = false := by
        intro c hc
        rw [beq_eq_false_iff_ne]
        rintro rfl
        exact h hc
      rw [hz 92 (by decide), hz 93 (by decide), hz 34 (by decide)]
      simp
      omega
theorem esc_pars (n : Nat) (a : List UInt8) : elems (n + 3) ([91, 105, 32, 110, 61, 34] ++ esc a ++ [34, 93]) = some ([⟨⟨#[105]⟩, [⟨⟨#[110]⟩, ofL a⟩]⟩], []) := by
  have hA : nmA (105 :: 32 :: 110 :: 61 :: 34 :: (esc a ++ [34, 93])) = [105] ∧ nmB (105 :: 32 :: 110 :: 61 :: 34 :: (esc a ++ [34, 93])) = 32 :: 110 :: 61 :: 34 :: (esc a ++ [34, 93]) :=
    nm_stop (p := [105]) (by decide) (c := 32) (by decide) _
  have hB : nmA (110 :: 61 :: 34 :: (esc a ++ [34, 93])) = [110] ∧ nmB (110 :: 61 :: 34 :: (esc a ++ [34, 93])) = 61 :: 34 :: (esc a ++ [34, 93]) :=
    nm_stop (p := [110]) (by decide) (c := 61) (by decide) _
  have hV : val (esc a ++ [34, 93]) = some (a, [34, 93]) := val_esc a [93]
  have hP : pars (n + 3) (32 :: 110 :: 61 :: 34 :: (esc a ++ [34, 93])) = some ([⟨⟨#[110]⟩, ofL a⟩], []) := by
    rw [pars, if_pos (by rfl)]
    simp only [List.drop_succ_cons, List.drop_zero]
    rw [hB.1, hB.2, if_pos (by rfl)]
    simp only [List.drop_succ_cons, List.drop_zero]
    rw [hV]
    simp only [Option.bind_some, List.drop_succ_cons, List.drop_zero]
    rw [pars, if_neg (by decide), if_pos (by rfl)]
    rfl
  rw [List.append_assoc]
  show elems (n + 3) (91 :: 105 :: 32 :: 110 :: 61 :: 34 :: (esc a ++ [34, 93])) = _
  rw [elems, if_pos (by rfl)]
  simp only [List.drop_succ_cons, List.drop_zero]
  unfold elem
  rw [hA.1, hA.2, hP]
  simp only [Option.map_some, Option.bind_some]
  rw [elems, if_neg (by decide)]
  rfl
end Go.Proofs.Ytgopphglkjdcaaa.Qt
end
/-! UtfG -/
section
/- A character's bytes as the program and the document make them; the document's first character and all characters. -/
namespace Go.Proofs.Ytgopphglkjdcaaa.Utf
open Go Go.RowKit Go.Proofs.Ytgopphglkjdcaaa.Px Go.Proofs.YtgopphglkjdcaaaW.PrintWords Go.Proofs.Ytgopphglkjdcaaa.Str
theorem or_pow (i : Nat) (x y : Nat) (hx : x % 2 ^ i = 0) (hx1 : x < 4611686018427387904) (hy : y < 2 ^ i) (hy1 : y < 4611686018427387904) : Go.bits .or .i64 (x : Int) (y : Int) = ((x + y : Nat) : Int) := by
  have e : ((2 : Int) ^ i) = ((2 ^ i : Nat) : Int) := by simp
  rw [bits_join .i64 63 (by decide) (fun n h0 h1 => by rw [IntKind.wrap_i64]; omega) i (x : Int) (y : Int) (by omega) (by rw [e]; omega) (by omega) (by omega) (by rw [e]; omega) (by omega)]
  omega
theorem nums_ints (l : List Nat) : strOfNums (l.map fun c : Nat => (c : Int)) = ofL (l.map UInt8.ofNat) := by
  apply ext
  rw [nums_L, ofL_L, List.map_map]
  rfl
theorem is_cases (x : Int) : (∃ c : Nat, x = c ∧ isC c) ∨ utf_is.f x = some false := by
  by_cases h0 : 0 ≤ x
  · obtain ⟨c, rfl⟩ : ∃ c : Nat, x = c := ⟨x.toNat, by omega⟩
    by_cases h : isC c
    · exact .inl ⟨c, rfl, h⟩
    · exact .inr (by rw [is_f, decide_eq_false h])
  · exact .inr (is_no x (by omega))
theorem refis_f (x : Int) : gongref04_Is.f x = utf_is.f x := rfl
theorem tdiv_nat (c m : Nat) : Int.tdiv (c : Int) (m : Int) = ((c / m : Nat) : Int) := by
  rw [Int.tdiv_eq_ediv_of_nonneg (by omega)]
  simp
theorem tmod_nat (c m : Nat) : Int.tmod (c : Int) (m : Int) = ((c % m : Nat) : Int) := by
  rw [Int.tmod_eq_emod_of_nonneg (by omega)]
  simp
theorem wrap_nat (c : Nat) (h : c < 9223372036854775808) : wrap64 (c : Int) = (c : Int) := wrap64_id (by omega) (by omega)
theorem add_wrap (x y : Nat) (h : x + y < 256) : wrap64 ((x : Int) + (y : Int)) % 256 = ((x + y : Nat) : Int) := by
  rw [wrap64_id (by omega) (by omega)]
  omega
theorem made_f (c : Nat) (h : isC c) : gongref04_Made.f (c : Int) = some (ofL (enc c)) := by
  unfold isC at h
  unfold gongref04_Made.f enc
  rw [← nums_ints]
  have d1 : wrap64 (Int.tdiv (c : Int) 64) = ((c / 64 : Nat) : Int) := by rw [show (64 : Int) = ((64 : Nat) : Int) from rfl, tdiv_nat, wrap_nat _ (by omega)]
  have d2 : wrap64 (Int.tdiv (c : Int) 4096) = ((c / 4096 : Nat) : Int) := by rw [show (4096 : Int) = ((4096 : Nat) : Int) from rfl, tdiv_nat, wrap_nat _ (by omega)]
  have d3 : wrap64 (Int.tdiv (c : Int) 262144) = ((c / 262144 : Nat) : Int) := by rw [show (262144 : Int) = ((262144 : Nat) : Int) from rfl, tdiv_nat, wrap_nat _ (by omega)]
  have m : ∀ x : Nat, Int.tmod (x : Int) 64 = ((x % 64 : Nat) : Int) := fun x => tmod_nat x 64
  have a1 : ∀ (k y : Nat), k + y < 256 → wrap64 ((k : Int) + (y : Int)) % 256 = ((k + y : Nat) : Int) := add_wrap
  unfold encN
  by_cases h1 : c < 128
  · rw [if_pos (by omega), if_pos h1]
    congr 2
    simp only [List.map_cons, List.map_nil, List.cons.injEq, and_true]
    omega
  · by_cases h2 : c < 2048
    · rw [if_neg (by omega), if_pos (by omega), if_neg h1, if_pos h2, d1, m]
      have e1 := a1 192 (c / 64) (by omega)
      have e2 := a1 128 (c % 64) (by omega)
      rw [show ((192 : Nat) : Int) = 192 from rfl] at e1
      rw [show ((128 : Nat) : Int) = 128 from rfl] at e2
      rw [e1, e2]
      rfl
    · by_cases h3 : c < 65536
      · rw [if_neg (by omega), if_neg (by omega), if_pos (by omega), if_neg h1, if_neg h2, if_pos h3, d1, d2, m, m]
        have e1 := a1 224 (c / 4096) (by omega)
        have e2 := a1 128 (c % 64) (by omega)
        have e3 := a1 128 (c / 64 % 64) (by omega)
        rw [show ((224 : Nat) : Int) = 224 from rfl] at e1
        rw [show ((128 : Nat) : Int) = 128 from rfl] at e2 e3
        rw [e1, e2, e3]
        rfl
      · rw [if_neg (by omega), if_neg (by omega), if_neg (by omega), if_neg h1, if_neg h2, if_neg h3, d1, d2, d3, m, m, m]
        have e1 := a1 240 (c / 262144) (by omega)
        have e2 := a1 128 (c % 64) (by omega)
        have e3 := a1 128 (c / 64 % 64) (by omega)
        have e4 := a1 128 (c / 4096 % 64) (by omega)
        rw [show ((240 : Nat) : Int) = 240 from rfl] at e1
        rw [show ((128 : Nat) : Int) = 128 from rfl] at e2 e3 e4
        rw [e1, e2, e3, e4]
        rfl
/-- What the first n bytes would tell. -/
def gs (f : Nat → Nat) (n : Nat) : Nat :=
  if n = 1 then f 0 else if n = 2 then f 0 % 32 * 64 + f 1 % 64
  else if n = 3 then (f 0 % 16 * 64 + f 1 % 64) * 64 + f 2 % 64
  else ((f 0 % 8 * 64 + f 1 % 64) * 64 + f 2 % 64) * 64 + f 3 % 64
theorem guess_step (s : ByteArray) (k n x i : Nat) (hx : x < 2097152) (hi : i < n) (hs : i < s.size) (h8 : i < 8) :
    gongref04_guess.l0 (k + 1) s (n : Int) (x : Int) (i : Int) = gongref04_guess.l0 k s (n : Int) ((x * 64 + at_ s i % 64 : Nat) : Int) ((i + 1 : Nat) : Int) := by
  simp only [gongref04_guess.l0]
  have hb := at_lt s i
  have hm : Int.tmod ((at_ s i : Nat) : Int) 64 = ((at_ s i % 64 : Nat) : Int) := tmod_nat _ 64
  rw [if_pos (by omega), if_pos (by omega), if_pos (by omega), bt_at hs, hm, wrap_nat _ (by omega), wrap64_id (x := (x : Int) * 64) (by omega) (by omega), wrap64_id (by omega) (by omega), wrap64_id (by omega) (by omega)]
  congr 1
theorem guess_end (s : ByteArray) (k n x : Nat) : gongref04_guess.l0 (k + 1) s (n : Int) (x : Int) (n : Int) = some (x : Int) := by
  simp only [gongref04_guess.l0]
  rw [if_neg (by omega)]
theorem guess_k (s : ByteArray) (k n : Nat) (h1 : 1 ≤ n) (h4 : n ≤ 4) (hs : n ≤ s.size) : gongref04_guess.f (k + 6) s (n : Int) = some ((gs (at_ s) n : Nat) : Int) := by
  have hb0 : bt s 0 = (at_ s 0 : Int) := bt_at (s := s) (i := 0) (by omega)
  have hl := at_lt s 0
  unfold gongref04_guess.f gs
  rw [if_pos (by omega), hb0, wrap_nat _ (by omega)]
  have m : ∀ (j x : Nat), gongref04_guess.j0 (k + 6) s (j : Int) (x : Int) = gongref04_guess.l0 (k + 5) s (j : Int) (x : Int) ((1 : Nat) : Int) := fun j x => by simp only [gongref04_guess.j0]; rfl
  by_cases e1 : n = 1
  · rw [if_pos (by omega), if_pos e1]
  · rw [if_neg (by omega), if_neg e1]
    by_cases e2 : n = 2
    · subst e2
      have t : Int.tmod ((at_ s 0 : Nat) : Int) 32 = ((at_ s 0 % 32 : Nat) : Int) := tmod_nat _ 32
      rw [if_pos (show ((2 : Nat) : Int) = 2 from rfl), if_pos rfl, t, m, guess_step s _ _ _ _ (by omega) (by decide) (by omega) (by decide), show (1 + 1 : Nat) = 2 from rfl, guess_end]
    · rw [if_neg (by omega), if_neg e2]
      by_cases e3 : n = 3
      · subst e3
        have t : Int.tmod ((at_ s 0 : Nat) : Int) 16 = ((at_ s 0 % 16 : Nat) : Int) := tmod_nat _ 16
        rw [if_pos (show ((3 : Nat) : Int) = 3 from rfl), if_pos rfl, t, m, guess_step s _ _ _ _ (by omega) (by decide) (by omega) (by decide), show (1 + 1 : Nat) = 2 from rfl, guess_step s _ _ _ _ (by omega) (by decide) (by omega) (by decide), show (2 + 1 : Nat) = 3 from rfl, guess_end]
      · have e4 : n = 4 := by omega
        subst e4
        have t : Int.tmod ((at_ s 0 : Nat) : Int) 8 = ((at_ s 0 % 8 : Nat) : Int) := tmod_nat _ 8
        rw [if_neg (by decide), if_neg e3, t, m, guess_step s _ _ _ _ (by omega) (by decide) (by omega) (by decide), show (1 + 1 : Nat) = 2 from rfl, guess_step s _ _ _ _ (by omega) (by decide) (by omega) (by decide), show (2 + 1 : Nat) = 3 from rfl, guess_step s _ _ _ _ (by omega) (by decide) (by omega) (by decide), show (3 + 1 : Nat) = 4 from rfl, guess_end]
theorem guess_ev (s : ByteArray) (n : Nat) (h1 : 1 ≤ n) (h4 : n ≤ 4) (hs : n ≤ s.size) : Ev (fun k => gongref04_guess.f k s (n : Int)) ((gs (at_ s) n : Nat) : Int) :=
  ⟨6, fun k hk => by obtain ⟨j, rfl⟩ : ∃ j, k = j + 6 := ⟨k - 6, by omega⟩; exact guess_k s j n h1 h4 hs⟩
theorem gs_dec {s : ByteArray} {c n : Nat} (h : dec s.data.toList = some (c, n)) : gs (at_ s) n = c := by
  obtain ⟨h1, h2, h3⟩ := dec_inv h
  have hn : ∀ i, i < n → (encN c).getD i 0 = at_ s i := by
    intro i hi
    unfold at_
    rw [h3, ← nat_enc c h1]
    unfold nat
    rw [List.getD_eq_getElem?_getD, List.getD_eq_getElem?_getD, List.getElem?_append_left (by omega), List.getElem?_map]
    rw [List.getElem?_eq_getElem (by omega)]
    rfl
  unfold isC at h1
  rw [enc_length] at h2
  unfold encN at hn h2
  unfold gs
  by_cases q1 : c < 128
  · rw [if_pos q1] at hn h2
    simp only [List.length_cons, List.length_nil] at h2
    subst h2
    have a0 := hn 0 (by decide)
    rw [if_pos rfl, ← a0]
    rfl
  · rw [if_neg q1] at hn h2
    by_cases q2 : c < 2048
    · rw [if_pos q2] at hn h2
      simp only [List.length_cons, List.length_nil] at h2
      subst h2
      have a0 := hn 0 (by decide)
      have a1 := hn 1 (by decide)
      simp only [List.getD_cons_zero, List.getD_cons_succ] at a0 a1
      rw [if_neg (by decide), if_pos rfl, ← a0, ← a1]
      omega
    · rw [if_neg q2] at hn h2
      by_cases q3 : c < 65536
      · rw [if_pos q3] at hn h2
        simp only [List.length_cons, List.length_nil] at h2
        subst h2
        have a0 := hn 0 (by decide)
        have a1 := hn 1 (by decide)
        have a2 := hn 2 (by decide)
        simp only [List.getD_cons_zero, List.getD_cons_succ] at a0 a1 a2
        rw [if_neg (by decide), if_neg (by decide), if_pos rfl, ← a0, ← a1, ← a2]
        omega
      · rw [if_neg q3] at hn h2
        simp only [List.length_cons, List.length_nil] at h2
        subst h2
        have a0 := hn 0 (by decide)
        have a1 := hn 1 (by decide)
        have a2 := hn 2 (by decide)
        have a3 := hn 3 (by decide)
        simp only [List.getD_cons_zero, List.getD_cons_succ] at a0 a1 a2 a3
        rw [if_neg (by decide), if_neg (by decide), if_neg (by decide), ← a0, ← a1, ← a2, ← a3]
        omega
theorem try_dec (s : ByteArray) (n : Nat) (hn : n ≤ s.size) : (isC (gs (at_ s) n) ∧ enc (gs (at_ s) n) = s.data.toList.take n) ↔ dec s.data.toList = some (gs (at_ s) n, n) := by
  constructor
  · intro ⟨h1, h2⟩
    have h3 := dec_enc _ h1 (s.data.toList.drop n)
    rw [h2, List.take_append_drop, List.length_take, ← size_L] at h3
    rw [h3]
    congr 2
    omega
  · intro h
    obtain ⟨h1, h2, h3⟩ := dec_inv h
    refine ⟨h1, ?_⟩
    generalize gs (at_ s) n = c at h1 h2 h3 ⊢
    rw [h2] at h3 ⊢
    rw [h3]
    exact List.take_left.symm
theorem refFirst_l0 (s : ByteArray) (d : Nat) : ∀ n : Nat, n + d = 5 → 1 ≤ n → (∀ c m, dec s.data.toList = some (c, m) → n ≤ m) → Ev (fun k => gongref04_First.l0 k s (n : Int)) (decR s.data.toList) := by
  have fin : ∀ n : Nat, (5 ≤ n ∨ s.size < n) → (∀ c m, dec s.data.toList = some (c, m) → n ≤ m) → Ev (fun k => gongref04_First.j1 k s (n : Int) false) (decR s.data.toList) := by
    intro n hn hm
    have h : dec s.data.toList = none := by
      cases hd : dec s.data.toList with
      | none => rfl
      | some x =>
        have h1 := hm x.1 x.2 hd
        have h2 := dec_le (c := x.1) (n := x.2) hd
        rw [← size_L] at h2
        omega
    rw [decR_none h]
    refine Ev.step (f := fun _ => some _) (fun k => ?_) (Ev.now _)
    simp only [gongref04_First.j1]
    rw [if_neg (by decide)]
  induction d with
  | zero =>
    intro n hd h1 hm
    refine Ev.step (fun k => ?_) (fin n (by omega) hm)
    simp only [gongref04_First.l0]
    rw [if_neg (by omega)]
  | succ d ih =>
    intro n hd h1 hm
    by_cases hs : n ≤ s.size
    · refine Ev.step (f := fun k => gongref04_First.j1 k s (n : Int) true) (fun k => ?_) ?_
      · simp only [gongref04_First.l0]
        rw [if_pos (by omega), decide_eq_true (by omega)]
      · have go : ¬ (dec s.data.toList = some (gs (at_ s) n, n)) → Ev (fun k => gongref04_First.l0 k s (wrap64 ((n : Int) + 1))) (decR s.data.toList) := by
          intro hno
          rw [show wrap64 ((n : Int) + 1) = ((n + 1 : Nat) : Int) from by rw [wrap64_id (by omega) (by omega)]; omega]
          refine ih (n + 1) (by omega) (by omega) (fun c m hcm => ?_)
          have := hm c m hcm
          by_cases e : m = n
          · subst e
            exact absurd (by rw [gs_dec hcm]; exact hcm) hno
          · omega
        refine Ev.step (f := fun k => (gongref04_guess.f k s (n : Int)).bind fun t157 => ((gongref04_Is.f t157).bind fun t158 => (if t158 = true then ((gongref04_Made.f t157).bind fun t159 => (if 0 ≤ (n : Int) then (if (n : Int) ≤ (s.size : Int) then (if t159.toList = (s.extract 0 ((n : Int) : Int).toNat).toList then (some (t157, (n : Int), 0)) else (gongref04_First.l0 k s (wrap64 ((n : Int) + 1)))) else (none)) else (none))) else (gongref04_First.l0 k s (wrap64 ((n : Int) + 1)))))) (fun k => by simp only [gongref04_First.j1, if_true]) ?_
        refine Ev.bind (guess_ev s n h1 (by omega) hs) ?_
        have hr := refis_f ((gs (at_ s) n : Nat) : Int)
        rw [is_f] at hr
        by_cases hc : isC (gs (at_ s) n)
        · by_cases ht : enc (gs (at_ s) n) = s.data.toList.take n
          · have hd' := (try_dec s n hs).1 ⟨hc, ht⟩
            rw [decR_some hd']
            refine Ev.congr (f := fun _ => some _) (fun k => ?_) (Ev.now _)
            rw [hr, decide_eq_true hc]
            simp only [Option.bind_some, if_true]
            rw [made_f _ hc]
            simp only [Option.bind_some]
            rw [if_pos (by omega), if_pos (by omega), toList_L, toList_L, ofL_L, pre_L, Int.toNat_natCast, if_pos ht]
          · refine Ev.congr (fun k => ?_) (go (fun z => ht ((try_dec s n hs).2 z).2))
            rw [hr, decide_eq_true hc]
            simp only [Option.bind_some, if_true]
            rw [made_f _ hc]
            simp only [Option.bind_some]
            rw [if_pos (by omega), if_pos (by omega), toList_L, toList_L, ofL_L, pre_L, Int.toNat_natCast, if_neg ht]
        · refine Ev.congr (fun k => ?_) (go (fun z => hc ((try_dec s n hs).2 z).1))
          rw [hr, decide_eq_false hc]
          simp only [Option.bind_some, Bool.false_eq_true, if_false]
    · refine Ev.step (fun k => ?_) (fin n (by omega) hm)
      simp only [gongref04_First.l0]
      rw [if_pos (by omega), decide_eq_false (by omega)]
theorem refFirst_ev (s : ByteArray) : Ev (fun k => gongref04_First.f k s) (decR s.data.toList) := by
  unfold gongref04_First.f
  exact refFirst_l0 s 4 1 (by decide) (by decide) (fun c m h => (dec_le h).1)
theorem refChars_l0 (s : ByteArray) (hs : s.size ≤ 1073741824) (n : Nat) : ∀ (i : Nat) (acc : List Int), s.size - i ≤ n → i ≤ s.size → acc.length ≤ i → Ev (fun k => gongref04_Chars.l0 k s acc (i : Int)) (chsR acc (s.data.toList.drop i)) := by
  have stop : ∀ (i : Nat) (acc : List Int), ¬ i < s.size → Ev (fun k => gongref04_Chars.l0 k s acc (i : Int)) (chsR acc (s.data.toList.drop i)) := by
    intro i acc h
    rw [List.drop_of_length_le (by rw [← size_L]; omega), chsR_some chs_nil]
    refine Ev.step (f := fun _ => some _) (fun k => ?_) (Ev.now _)
    simp only [gongref04_Chars.l0]
    rw [if_neg (by omega)]
    simp [ints]
  induction n with
  | zero => intro i acc hn hi ha; exact stop i acc (by omega)
  | succ n ih =>
    intro i acc hn hi ha
    by_cases hlt : i < s.size
    · have hf := refFirst_ev (s.extract i s.size)
      rw [post_L] at hf
      refine Ev.step (f := fun k => (gongref04_First.f k (s.extract i s.size)).bind fun b => if b.2.2 = 0 then (if acc.length < 17592186044416 then gongref04_Chars.l0 k s (acc ++ [b.1]) (wrap64 ((i : Int) + b.2.1)) else none) else some (([] : List Int), b.2.2)) (fun k => ?_) (Ev.bind hf ?_)
      · simp only [gongref04_Chars.l0]
        rw [if_pos (by omega), if_pos (by omega), if_pos (by omega), Int.toNat_natCast]
      · cases hd : dec (s.data.toList.drop i) with
        | none =>
          rw [decR_none hd, chsR_none (chs_none hd (by intro z; have := congrArg List.length z; rw [List.length_drop, ← size_L] at this; simp at this; omega))]
          exact Ev.congr (f := fun _ => some _) (fun k => by rw [if_neg (show ¬ (40 : Int) = 0 by decide)]) (Ev.now _)
        | some x =>
          obtain ⟨c, m⟩ := x
          have hm := dec_le hd
          rw [List.length_drop, ← size_L] at hm
          rw [decR_some hd, chsR_step hd, List.drop_drop]
          refine Ev.congr (fun k => ?_) (ih (i + m) (acc ++ [(c : Int)]) (by omega) (by omega) (by simp; omega))
          simp only [if_true]
          rw [if_pos (by omega), wrap64_id (by omega) (by omega)]
          rfl
    · exact stop i acc hlt
theorem refChars_ev (s : ByteArray) (hs : s.size ≤ 1073741824) : Ev (fun k => gongref04_Chars.f k s) (chsR [] s.data.toList) := by
  unfold gongref04_Chars.f
  exact refChars_l0 s hs s.size 0 [] (by omega) (by omega) (by simp)
theorem refCheck_ev (s : ByteArray) (hs : s.size ≤ 1073741824) : Ev (fun k => gongref04_Check.f k s) (ckR s.data.toList) := by
  unfold gongref04_Check.f
  refine Ev.bind (refChars_ev s hs) ?_
  rw [ckR_eq]
  exact Ev.now _
end Go.Proofs.Ytgopphglkjdcaaa.Utf
end
/-! QtK -/
section
/- The document's side: names, escapes, which data may be, what is the same. -/
namespace Go.Proofs.Ytgopphglkjdcaaa.Qt
open Go Go.RowKit Go.Proofs.Ytgopphglkjdcaaa.Px Go.Proofs.YtgopphglkjdcaaaW.PrintWords Go.Proofs.Ytgopphglkjdcaaa.Str
theorem refSpecial_f (b : UInt8) : gongref10_special.f (b.toNat : Int) = some (sp b) := by
  unfold gongref10_special.f sp
  split
  · rw [decide_eq_true (by omega)]
  · split
    · rw [decide_eq_true (by omega)]
    · congr 1
      rw [Bool.eq_iff_iff, beq_iff_eq, decide_eq_true_eq]
      omega
theorem cut_one (s : ByteArray) (i : Nat) (h : i < s.size) : s.extract i (i + 1) = ofL [s.data.toList.getD i 0] := by
  refine ext ?_
  rw [extract_L, ofL_L, List.take_succ_eq_append_getElem (by rw [← size_L]; exact h), List.drop_append_of_le_length (by rw [List.length_take, ← size_L]; omega), List.drop_eq_nil_of_le (by rw [List.length_take]; omega), List.nil_append, List.getD_eq_getElem?_getD, List.getElem?_eq_getElem (by rw [← size_L]; exact h), Option.getD_some]
-- ---- names and escapes
theorem may_int (b : UInt8) : mayB b = true ↔ ¬ (b.toNat : Int) < 33 ∧ ¬ (b.toNat : Int) > 126 ∧ ¬ (b.toNat : Int) = 61 ∧ ¬ (b.toNat : Int) = 93 ∧ ¬ (b.toNat : Int) = 34 := by
  unfold mayB
  rw [decide_eq_true_eq]
  omega
theorem refIs_l0 (s : ByteArray) (hs : s.size ≤ 1073741824) (d : Nat) : ∀ i : Nat, i + d = s.size → Ev (fun k => gongref10_IsName.l0 k s (i : Int)) ((s.data.toList.drop i).all mayB) := by
  induction d with
  | zero =>
    intro i hi
    rw [List.drop_eq_nil_of_le (by rw [← size_L]; omega)]
    refine Ev.step (f := fun _ => some true) (fun k => ?_) (Ev.now _)
    simp only [gongref10_IsName.l0]
    rw [if_neg (by omega)]
  | succ d ih =>
    intro i hi
    have hlt : i < s.size := by omega
    have hb := bt_L hlt
    rw [getD_drop _ _ (by rw [← size_L]; exact hlt), List.all_cons]
    generalize s.data.toList.getD i 0 = b at hb ⊢
    by_cases hm : mayB b = true
    · rw [hm, Bool.true_and]
      have h5 := (may_int b).mp hm
      refine Ev.step (fun k => ?_) (ih (i + 1) (by omega))
      simp only [gongref10_IsName.l0]
      rw [if_pos (by omega), if_pos (by omega), hb, if_neg h5.1, if_neg h5.2.1, if_neg h5.2.2.1, if_neg h5.2.2.2.1, if_neg h5.2.2.2.2, wrap64_id (by omega) (by omega)]
      rfl
    · have h5 := mt (may_int b).mpr hm
      rw [show mayB b = false by simpa using hm, Bool.false_and]
      refine Ev.step (f := fun _ => some false) (fun k => ?_) (Ev.now _)
      simp only [gongref10_IsName.l0]
      rw [if_pos (by omega), if_pos (by omega), hb]
      split
      · rfl
      · split
        · rfl
        · split
          · rfl
          · split
            · rfl
            · rw [if_pos (by omega)]
theorem refIsName_ev (s : ByteArray) (hs : s.size ≤ 1073741824) : Ev (fun k => gongref10_IsName.f k s) (isName s.data.toList) := by
  unfold gongref10_IsName.f isName
  have no : Ev (fun k => gongref10_IsName.j0 k s true) false := by
    refine Ev.step (f := fun _ => some false) (fun k => ?_) (Ev.now _)
    simp only [gongref10_IsName.j0]
    rw [if_pos trivial]
  by_cases h0 : s.data.toList = []
  · rw [show decide (s.data.toList ≠ []) = false from decide_eq_false (fun z => z h0), Bool.false_and, Bool.and_false]
    exact Ev.congr (fun k => if_pos (by rw [toList_L]; exact h0)) no
  · rw [show decide (s.data.toList ≠ []) = true from decide_eq_true h0, Bool.true_and]
    have h0' : ¬ s.toList = ([] : List UInt8) := by rw [toList_L]; exact h0
    by_cases h1 : (s.size : Int) > 32
    · rw [show decide (s.data.toList.length ≤ 32) = false from decide_eq_false (by rw [← size_L]; omega), Bool.and_false]
      exact Ev.congr (fun k => by rw [if_neg h0', decide_eq_true h1]) no
    · rw [show decide (s.data.toList.length ≤ 32) = true from decide_eq_true (by rw [← size_L]; omega), Bool.and_true]
      refine Ev.congr (f := fun k => gongref10_IsName.j0 k s false) (fun k => by rw [if_neg h0', decide_eq_false h1]) ?_
      refine Ev.step (fun k => ?_) (refIs_l0 s hs s.size 0 (by omega))
      simp only [gongref10_IsName.j0]
      rw [if_neg (by decide)]
      rfl
theorem refEscape_l0 (s : ByteArray) (hs : s.size ≤ 1073741824) (d : Nat) : ∀ (i : Nat) (acc : ByteArray), i + d = s.size → acc.size ≤ 2 * i → Ev (fun k => gongref10_Escape.l0 k s acc (i : Int)) (acc ++ ofL (esc (s.data.toList.drop i))) := by
  induction d with
  | zero =>
    intro i acc hi ha
    rw [List.drop_eq_nil_of_le (by rw [← size_L]; omega)]
    refine Ev.step (f := fun _ => some (acc ++ ofL (esc []))) (fun k => ?_) (Ev.now _)
    simp only [gongref10_Escape.l0]
    rw [if_neg (by omega)]
    congr 1
    exact ext (by simp [app_L, esc])
  | succ d ih =>
    intro i acc hi ha
    have hlt : i < s.size := by omega
    have hb := bt_L hlt
    have hc1 := cut_one s i hlt
    rw [getD_drop _ _ (by rw [← size_L]; exact hlt)]
    generalize s.data.toList.getD i 0 = b at hb hc1 ⊢
    have e : esc (b :: s.data.toList.drop (i + 1)) = one b ++ esc (s.data.toList.drop (i + 1)) := by unfold esc; rw [List.flatMap_cons]
    rw [e]
    have ih1 := ih (i + 1) (acc ++ ofL (one b)) (by omega) (by rw [ByteArray.size_append, ofL_size, one_len]; split <;> omega)
    have e2 : acc ++ ofL (one b) ++ ofL (esc (s.data.toList.drop (i + 1))) = acc ++ ofL (one b ++ esc (s.data.toList.drop (i + 1))) := ext (by simp [app_L])
    rw [e2] at ih1
    have W1 := Lib.hid (show wrap64 ((i : Int) + 1) = ((i + 1 : Nat) : Int) by rw [wrap64_id (by omega) (by omega)]; rfl)
    refine Ev.step (fun k => ?_) ih1
    simp only [gongref10_Escape.l0]
    rw [if_pos (by omega), if_pos (by omega), hb, refSpecial_f, Option.bind_some]
    by_cases hsp : sp b = true
    · have e3 : acc ++ (⟨#[92]⟩ : ByteArray) ++ ofL [b] = acc ++ ofL (one b) := ext (by simp [app_L, one, hsp])
      have e4 : (acc ++ (⟨#[92]⟩ : ByteArray)).size = acc.size + 1 := by rw [ByteArray.size_append]; rfl
      rw [if_pos hsp, if_pos (by omega), W1.out, if_pos (by omega), if_pos (by omega), Int.toNat_natCast, Int.toNat_natCast, hc1, e3, if_pos (by rw [e4, ofL_size, List.length_singleton]; omega)]
    · have e3 : ofL [b] = ofL (one b) := by unfold one; rw [if_neg hsp]
      rw [if_neg hsp, W1.out, if_pos (by omega), if_pos (by omega), Int.toNat_natCast, Int.toNat_natCast, hc1, if_pos (by rw [ofL_size, List.length_singleton]; omega), e3]
theorem refEscape_ev (s : ByteArray) (hs : s.size ≤ 1073741824) : Ev (fun k => gongref10_Escape.f k s) (ofL (esc s.data.toList)) := by
  have h := refEscape_l0 s hs s.size 0 ⟨#[]⟩ (by omega) (Nat.zero_le _)
  rw [List.drop_zero] at h
  have e : (⟨#[]⟩ : ByteArray) ++ ofL (esc s.data.toList) = ofL (esc s.data.toList) := ext (by simp [app_L])
  rw [e] at h
  exact h
-- ---- which data may be
theorem refElem_l0 (m : ByteArray) (ps : List PR) (hl : ps.length ≤ 4611686018427387904) (hp : ∀ p ∈ ps, p.f0.size ≤ 1073741824 ∧ p.f1.size ≤ 1073741824) (d : Nat) : ∀ i : Nat, i + d = ps.length → Ev (fun k => gongref10_element.l0 k (i : Int) m ps) ((ps.drop i).all okP) := by
  induction d with
  | zero =>
    intro i hi
    rw [List.drop_eq_nil_of_le (by omega)]
    refine Ev.step (f := fun _ => some true) (fun k => ?_) (Ev.now _)
    simp only [gongref10_element.l0]
    rw [if_neg (by omega)]
  | succ d ih =>
    intro i hi
    have h1 : i < ps.length := by omega
    have hpi := hp ps[i] (List.getElem_mem h1)
    rw [List.drop_eq_getElem_cons h1, List.all_cons]
    refine Ev.step (f := fun k => (gongref10_IsName.f k ps[i].f0).bind fun t190 => (if t190 = true then ((gongref04_Check.f k ps[i].f1).bind fun t192 => (if t192 = 0 then (gongref10_element.l0 k ((i + 1 : Nat) : Int) m ps) else (some false))) else (some false))) (fun k => ?_) (Ev.bind (refIsName_ev _ hpi.1) ?_)
    · simp only [gongref10_element.l0]
      rw [if_pos (by omega), if_pos (by omega), rdP ps i h1, wrap64_id (by omega) (by omega)]
      rfl
    · unfold okP
      cases isName ps[i].f0.data.toList with
      | false => exact Ev.congr (f := fun _ => some false) (fun k => if_neg (by simp)) (Ev.now _)
      | true =>
        refine Ev.congr (fun k => if_pos rfl) (Ev.bind (Utf.refCheck_ev _ hpi.2) ?_)
        by_cases hu : Utf.ckR ps[i].f1.data.toList = 0
        · rw [decide_eq_true hu]
          exact Ev.congr (fun k => if_pos hu) (ih (i + 1) (by omega))
        · rw [decide_eq_false hu]
          exact Ev.congr (f := fun _ => some false) (fun k => if_neg hu) (Ev.now _)
theorem refElem_ev (x : EL) (hl : x.f1.length ≤ 4611686018427387904) (h0 : x.f0.size ≤ 1073741824) (hp : ∀ p ∈ x.f1, p.f0.size ≤ 1073741824 ∧ p.f1.size ≤ 1073741824) : Ev (fun k => gongref10_element.f k x.f0 x.f1) (okE x) := by
  unfold gongref10_element.f okE
  refine Ev.bind (refIsName_ev _ h0) ?_
  have no : Ev (fun k => gongref10_element.j0 k true x.f0 x.f1) false := by
    refine Ev.step (f := fun _ => some false) (fun k => ?_) (Ev.now _)
    simp only [gongref10_element.j0]
    rw [if_pos trivial]
  cases isName x.f0.data.toList with
  | false => exact Ev.congr (fun k => if_neg (by simp)) no
  | true =>
    by_cases h4 : (x.f1.length : Int) > 4096
    · rw [show decide (x.f1.length ≤ 4096) = false from decide_eq_false (by omega)]
      exact Ev.congr (fun k => by rw [if_pos rfl, decide_eq_true h4]) no
    · rw [show decide (x.f1.length ≤ 4096) = true from decide_eq_true (by omega)]
      refine Ev.congr (f := fun k => gongref10_element.j0 k false x.f0 x.f1) (fun k => by rw [if_pos rfl, decide_eq_false h4]) ?_
      refine Ev.step (fun k => ?_) (refElem_l0 x.f0 x.f1 hl hp x.f1.length 0 (by omega))
      simp only [gongref10_element.j0]
      rw [if_neg (by decide)]
      rfl
def wide (l : List EL) : Prop := l.length ≤ 1073741824 ∧ ∀ x ∈ l, x.f1.length ≤ 4611686018427387904
def idOf (x : EL) : List UInt8 := x.f0.data.toList
theorem refCheck_l1 (l : List EL) (hw : l.length ≤ 1073741824) (i : Nat) (hi : i < l.length) (R : Int) (hR : Ev (fun k => gongref10_Check.l0 k l ((i + 1 : Nat) : Int)) R) (d : Nat) : ∀ j : Nat, j + d = i →
    Ev (fun k => gongref10_Check.l1 k l (i : Int) (j : Int)) (if idOf l[i] ∈ ((l.take i).drop j).map idOf then 100 else R) := by
  induction d with
  | zero =>
    intro j hj
    rw [List.drop_eq_nil_of_le (by rw [List.length_take]; omega), List.map_nil, if_neg (by simp)]
    refine Ev.step (fun k => ?_) hR
    simp only [gongref10_Check.l1]
    rw [if_neg (by omega), wrap64_id (by omega) (by omega)]
    rfl
  | succ d ih =>
    intro j hj
    have h1 : j < l.length := by omega
    have h2 : j < (l.take i).length := by rw [List.length_take]; omega
    rw [List.drop_eq_getElem_cons h2, List.map_cons, List.getElem_take]
    by_cases he : idOf l[j] = idOf l[i]
    · rw [if_pos (by rw [he]; exact List.mem_cons_self)]
      refine Ev.step (f := fun _ => some 100) (fun k => ?_) (Ev.now _)
      simp only [gongref10_Check.l1]
      rw [if_pos (by omega), if_pos (by omega), if_pos (by omega), if_pos (by omega), if_pos (by omega), rdE l j h1, rdE l i hi, if_pos (by rw [toList_L, toList_L]; exact he)]
    · have hm : (idOf l[i] ∈ idOf l[j] :: ((l.take i).drop (j + 1)).map idOf) ↔ idOf l[i] ∈ ((l.take i).drop (j + 1)).map idOf := by
        rw [List.mem_cons]
        constructor
        · rintro (z | z)
          · exact absurd z.symm he
          · exact z
        · exact .inr
      simp only [hm]
      refine Ev.step (fun k => ?_) (ih (j + 1) (by omega))
      simp only [gongref10_Check.l1]
      rw [if_pos (by omega), if_pos (by omega), if_pos (by omega), if_pos (by omega), if_pos (by omega), rdE l j h1, rdE l i hi, if_neg (by rw [toList_L, toList_L]; exact he), wrap64_id (by omega) (by omega)]
      rfl
theorem refCheck_l0 (l : List EL) (hw : wide l) (hs : slim l) (d : Nat) : ∀ (i : Nat) (seen : List (List UInt8)), i + d = l.length → (∀ y, y ∈ seen ↔ y ∈ (l.take i).map idOf) → Ev (fun k => gongref10_Check.l0 k l (i : Int)) (ckGo seen (l.drop i)) := by
  induction d with
  | zero =>
    intro i seen hi hseen
    rw [List.drop_eq_nil_of_le (by omega)]
    refine Ev.step (f := fun _ => some 0) (fun k => ?_) (Ev.now _)
    simp only [gongref10_Check.l0]
    rw [if_neg (by have := hw.1; omega)]
  | succ d ih =>
    intro i seen hi hseen
    have hwl := hw.1
    have h1 : i < l.length := by omega
    have hxs := hs l[i] (List.getElem_mem h1)
    have hxw := hw.2 l[i] (List.getElem_mem h1)
    rw [List.drop_eq_getElem_cons h1, ckGo]
    refine Ev.step (f := fun k => (gongref10_element.f k l[i].f0 l[i].f1).bind fun t194 => (if t194 = true then (gongref10_Check.l1 k l (i : Int) 0) else (some 100))) (fun k => ?_) (Ev.bind (refElem_ev l[i] hxw hxs.1 hxs.2) ?_)
    · simp only [gongref10_Check.l0]
      rw [if_pos (by omega), if_pos (by omega), rdE l i h1]
    · cases hok : okE l[i] with
      | false =>
        rw [if_neg (by simp)]
        exact Ev.congr (f := fun _ => some 100) (fun k => if_neg (by simp)) (Ev.now _)
      | true =>
        have ih1 := ih (i + 1) (idOf l[i] :: seen) (by omega) (by
          intro y
          rw [List.take_succ_eq_append_getElem h1, List.map_append, List.mem_append, List.mem_cons, hseen y, List.map_cons, List.map_nil, List.mem_singleton]
          exact Or.comm)
        have h2 := refCheck_l1 l hwl i h1 _ ih1 i 0 (by omega)
        refine Ev.congr (f := fun k => gongref10_Check.l1 k l (i : Int) 0) (fun k => if_pos rfl) ?_
        rw [List.drop_zero] at h2
        by_cases hm : idOf l[i] ∈ seen
        · rw [if_pos ((hseen _).mp hm)] at h2
          rw [if_neg (fun z => z.2 hm)]
          exact h2
        · rw [if_neg (fun z => hm ((hseen _).mpr z))] at h2
          rw [if_pos ⟨rfl, hm⟩]
          exact h2
theorem refCheck_ev (l : List EL) (hw : wide l) (hs : slim l) : Ev (fun k => gongref10_Check.f k l) (ckD l) := by
  unfold gongref10_Check.f ckD
  by_cases h4 : 4096 < l.length
  · rw [if_pos h4]
    exact Ev.congr (f := fun _ => some 100) (fun k => if_pos (by omega)) (Ev.now _)
  · rw [if_neg h4]
    exact Ev.congr (fun k => if_neg (by omega)) (refCheck_l0 l hw hs l.length 0 [] (by omega) (fun y => by simp))
-- ---- what is the same
theorem refSame_l1 (a b : List EL) (ha : a.length ≤ 1073741824) (i : Nat) (hi : i < a.length) (hib : i < b.length) (hx : a[i].f1.length = b[i].f1.length) (hw : a[i].f1.length ≤ 4611686018427387904) (R : Bool) (hR : Ev (fun k => gongref10_Same.l0 k a b ((i + 1 : Nat) : Int)) R) (d : Nat) : ∀ j : Nat, j + d = a[i].f1.length →
    Ev (fun k => gongref10_Same.l1 k a b (i : Int) (j : Int)) (eqPs (a[i].f1.drop j) (b[i].f1.drop j) && R) := by
  induction d with
  | zero =>
    intro j hj
    rw [List.drop_eq_nil_of_le (by omega), List.drop_eq_nil_of_le (by omega)]
    refine Ev.step (fun k => ?_) hR
    simp only [gongref10_Same.l1]
    rw [if_pos (by omega), if_pos (by omega), rdE a i hi, if_neg (by omega), wrap64_id (by omega) (by omega)]
    rfl
  | succ d ih =>
    intro j hj
    have h1 : j < a[i].f1.length := by omega
    have h2 : j < b[i].f1.length := by omega
    rw [List.drop_eq_getElem_cons h1, List.drop_eq_getElem_cons h2, eqPs]
    have key : ∀ k, gongref10_Same.l1 (k + 1) a b (i : Int) (j : Int) = if eqP a[i].f1[j] b[i].f1[j] = true then gongref10_Same.l1 k a b (i : Int) ((j + 1 : Nat) : Int) else some false := by
      intro k
      simp only [gongref10_Same.l1]
      rw [if_pos (by omega), if_pos (by omega), rdE a i hi, rdE b i hib, if_pos (by omega), if_pos (by omega), if_pos (by omega), if_pos (by omega), rdP _ j h1, rdP _ j h2, wrap64_id (by omega) (by omega)]
      unfold eqP
      cases (a[i].f1[j].f0.toList == b[i].f1[j].f0.toList) <;> cases (a[i].f1[j].f1.toList == b[i].f1[j].f1.toList) <;> simp
    cases he : eqP a[i].f1[j] b[i].f1[j] with
    | true => exact Ev.step (fun k => by rw [key k, if_pos he]) (ih (j + 1) (by omega))
    | false => exact Ev.step (f := fun _ => some false) (fun k => by rw [key k, if_neg (by rw [he]; simp)]) (Ev.now _)
theorem refSame_l0 (a b : List EL) (hl : a.length = b.length) (ha : wide a) (d : Nat) : ∀ i : Nat, i + d = a.length → Ev (fun k => gongref10_Same.l0 k a b (i : Int)) (eqEs (a.drop i) (b.drop i)) := by
  have hal := ha.1
  induction d with
  | zero =>
    intro i hi
    rw [List.drop_eq_nil_of_le (by omega), List.drop_eq_nil_of_le (by omega)]
    refine Ev.step (f := fun _ => some true) (fun k => ?_) (Ev.now _)
    simp only [gongref10_Same.l0]
    rw [if_neg (by omega)]
  | succ d ih =>
    intro i hi
    have h1 : i < a.length := by omega
    have h2 : i < b.length := by omega
    have hw := ha.2 a[i] (List.getElem_mem h1)
    rw [List.drop_eq_getElem_cons h1, List.drop_eq_getElem_cons h2, eqEs]
    unfold eqE
    have no : Ev (fun k => gongref10_Same.j1 k a b (i : Int) true) false := by
      refine Ev.step (f := fun _ => some false) (fun k => ?_) (Ev.now _)
      simp only [gongref10_Same.j1]
      rw [if_pos trivial]
    by_cases h0 : a[i].f0.toList = b[i].f0.toList
    · rw [beq_iff_eq.mpr h0, Bool.true_and]
      by_cases hlen : a[i].f1.length = b[i].f1.length
      · refine Ev.step (f := fun k => gongref10_Same.j1 k a b (i : Int) false) (fun k => ?_) ?_
        · simp only [gongref10_Same.l0]
          rw [if_pos (by omega), if_pos (by omega), if_pos (by omega), rdE a i h1, rdE b i h2, if_pos h0]
          congr 1
          rw [bne_eq_false_iff_eq]
          omega
        · refine Ev.step (fun k => ?_) (refSame_l1 a b hal i h1 h2 hlen hw _ (ih (i + 1) (by omega)) a[i].f1.length 0 (by omega))
          simp only [gongref10_Same.j1]
          rw [if_neg (by decide)]
          rfl
      · rw [eqPs_len hlen, Bool.false_and]
        refine Ev.step (fun k => ?_) no
        simp only [gongref10_Same.l0]
        rw [if_pos (by omega), if_pos (by omega), if_pos (by omega), rdE a i h1, rdE b i h2, if_pos h0]
        congr 1
        rw [bne_iff_ne]
        omega
    · rw [beq_eq_false_iff_ne.mpr h0, Bool.false_and, Bool.false_and]
      refine Ev.step (fun k => ?_) no
      simp only [gongref10_Same.l0]
      rw [if_pos (by omega), if_pos (by omega), if_pos (by omega), rdE a i h1, rdE b i h2, if_neg h0]
theorem refSame_ev (a b : List EL) (ha : wide a) : Ev (fun k => gongref10_Same.f k a b) (eqEs a b) := by
  unfold gongref10_Same.f
  by_cases hl : a.length = b.length
  · exact Ev.congr (fun k => if_pos (by omega)) (refSame_l0 a b hl ha a.length 0 (by omega))
  · rw [eqEs_len hl]
    exact Ev.congr (f := fun _ => some false) (fun k => if_neg (by omega)) (Ev.now _)
end Go.Proofs.Ytgopphglkjdcaaa.Qt
end
/-! QtW -/
section
/- Printing: the text of data, and that it is parsed as it was. -/
namespace Go.Proofs.Ytgopphglkjdcaaa.Qt
open Go Go.RowKit Go.Proofs.Ytgopphglkjdcaaa.Px Go.Proofs.YtgopphglkjdcaaaW.PrintWords Go.Proofs.Ytgopphglkjdcaaa.Str
def ptx (p : PR) : List UInt8 := 32 :: (p.f0.data.toList ++ (61 :: 34 :: (esc p.f1.data.toList ++ [34])))
def etx (x : EL) : List UInt8 := 91 :: (x.f0.data.toList ++ (x.f1.flatMap ptx ++ [93]))
def txt (l : List EL) : List UInt8 := l.flatMap etx
def mild (p : PR) : Prop := p.f0.size ≤ 1000000 ∧ p.f1.size ≤ 1000000
def tiny (x : EL) : Prop := x.f0.size ≤ 1000000 ∧ x.f1.length ≤ 4096 ∧ ∀ p ∈ x.f1, mild p
theorem ptx_app (p : PR) (t : List UInt8) : ptx p ++ t = 32 :: (p.f0.data.toList ++ 61 :: 34 :: (esc p.f1.data.toList ++ 34 :: t)) := by unfold ptx; simp [List.append_assoc]
theorem etx_app (x : EL) (t : List UInt8) : etx x ++ t = 91 :: (x.f0.data.toList ++ (x.f1.flatMap ptx ++ 93 :: t)) := by unfold etx; simp [List.append_assoc]
theorem ptx_len (p : PR) : (ptx p).length = p.f0.size + (esc p.f1.data.toList).length + 4 := by
  unfold ptx
  simp only [List.length_cons, List.length_append, List.length_nil, size_L]
  omega
theorem ptx_le {p : PR} (h : mild p) : (ptx p).length ≤ 4000000 := by
  rw [ptx_len]
  have := (esc_len p.f1.data.toList).2
  rw [← size_L] at this
  have := h.1
  have := h.2
  omega
theorem ptxs_le : ∀ ps : List PR, (∀ p ∈ ps, mild p) → (ps.flatMap ptx).length ≤ 4000000 * ps.length
  | [], _ => by simp
  | p :: ps, h => by
    rw [List.flatMap_cons, List.length_append, List.length_cons]
    have h1 := ptx_le (h p List.mem_cons_self)
    have h2 := ptxs_le ps (fun x hx => h x (List.mem_cons_of_mem p hx))
    omega
theorem etx_len (x : EL) : (etx x).length = x.f0.size + (x.f1.flatMap ptx).length + 2 := by
  unfold etx
  rw [List.length_cons, List.length_append, List.length_append, List.length_singleton, size_L]
  omega
theorem par_f {p : PR} (h : mild p) : quote_Print.par p = some (ofL (esc p.f1.data.toList), ofL (ptx p)) := by
  unfold quote_Print.par
  have h1 := h.1
  have h2 := h.2
  have h3 := (esc_len p.f1.data.toList).2
  rw [← size_L] at h3
  rw [if_pos (by omega), escape_f _ (by omega), Option.bind_some, if_pos (by rw [ofL_size]; omega)]
  congr 2
  refine ext ?_
  simp only [app_L, ofL_L]
  unfold ptx
  simp [List.append_assoc]
theorem ps_f : ∀ (ps : List PR) (acc : List UInt8), (∀ p ∈ ps, mild p) → acc.length + 4000000 * ps.length ≤ 35184372088832 → quote_Print.ps ps acc = some (acc ++ ps.flatMap ptx)
  | [], acc, _, _ => by rw [quote_Print.ps]; simp
  | p :: ps, acc, h, hl => by
    rw [List.length_cons] at hl
    have h1 := ptx_le (h p List.mem_cons_self)
    rw [quote_Print.ps, par_f (h p List.mem_cons_self), Option.bind_some, if_pos (by omega), ps_f ps _ (fun x hx => h x (List.mem_cons_of_mem p hx)) (by rw [ofL_L, List.length_append]; omega), List.flatMap_cons, ofL_L, List.append_assoc]
theorem go_f : ∀ (l : List EL) (acc : List UInt8), (∀ x ∈ l, tiny x) → acc.length ≤ 65536 → quote_Print.go l acc = some (if 65536 < (acc ++ txt l).length then (⟨#[]⟩, 2) else (ofL (acc ++ txt l), 0))
  | [], acc, _, ha => by
    rw [quote_Print.go]
    unfold txt
    rw [List.flatMap_nil, List.append_nil, if_neg (by omega)]
    rfl
  | x :: l, acc, h, ha => by
    have hx := h x List.mem_cons_self
    have hx1 := hx.1
    have hx2 := hx.2.1
    have hps := ptxs_le x.f1 hx.2.2
    have e91 : (⟨#[91]⟩ ++ x.f0 : ByteArray).data.toList = 91 :: x.f0.data.toList := by rw [app_L]; rfl
    have e1 : acc ++ (⟨#[91]⟩ ++ x.f0 : ByteArray).data.toList ++ x.f1.flatMap ptx ++ [93] = acc ++ etx x := by
      rw [e91]
      unfold etx
      simp [List.append_assoc]
    have e2 : (acc ++ (⟨#[91]⟩ ++ x.f0 : ByteArray).data.toList ++ x.f1.flatMap ptx).length + 1 = (acc ++ etx x).length := by
      rw [← e1, List.length_append (bs := [93])]
      rfl
    have e3 : txt (x :: l) = etx x ++ txt l := by unfold txt; rw [List.flatMap_cons]
    have e4 := etx_len x
    rw [quote_Print.go, if_pos ⟨by omega, by omega, by omega⟩, ps_f x.f1 _ hx.2.2 (by rw [e91, List.length_append, List.length_cons, ← size_L]; omega), Option.bind_some,
      if_pos (by have h7 : (acc ++ etx x).length = acc.length + (etx x).length := List.length_append; omega), e2, e1, e3, ← List.append_assoc]
    by_cases hlong : 65536 < (acc ++ etx x).length
    · rw [if_pos hlong, if_pos (by rw [List.length_append]; omega)]
    · rw [if_neg hlong]
      exact go_f l _ (fun y hy => h y (List.mem_cons_of_mem x hy)) (by omega)
def printR (l : List EL) : ByteArray × Int := if ckD l = 0 then (if l = [] then (⟨#[45]⟩, 0) else if 65536 < (txt l).length then (⟨#[]⟩, 2) else (ofL (txt l), 0)) else (⟨#[]⟩, ckD l)
theorem check_big (l : List EL) (h : 4096 < l.length) : Ev (fun k => quote_Check.f k l) (ckD l) := by
  unfold quote_Check.f ckD
  rw [if_pos h]
  exact Ev.congr (f := fun _ => some 100) (fun k => if_pos h) (Ev.now _)
theorem ck_short {l : List EL} (h : ckD l = 0) : l.length ≤ 4096 := by
  unfold ckD at h
  by_cases h4 : 4096 < l.length
  · rw [if_pos h4] at h
    exact absurd h (by decide)
  · omega
theorem print_ev (l : List EL) (hc : Ev (fun k => quote_Check.f k l) (ckD l)) (h : ckD l = 0 → ∀ x ∈ l, tiny x) : Ev (fun k => quote_Print.f k l) (printR l) := by
  unfold quote_Print.f printR
  refine Ev.bind hc ?_
  by_cases h0 : ckD l = 0
  · simp only [if_pos h0]
    have hl := ck_short h0
    have ht := h h0
    by_cases hn : l = []
    · subst hn
      exact Ev.now ((⟨#[45]⟩ : ByteArray), (0 : Int))
    · simp only [if_neg hn]
      have hnl : ¬ (l.length : Int) = 0 := fun z => hn (List.length_eq_zero_iff.mp (by omega))
      refine Ev.congr (f := fun _ => some _) (fun k => ?_) (Ev.now _)
      rw [if_neg hnl, if_pos (by omega), go_f l [] ht (by simp), List.nil_append]
  · simp only [if_neg h0]
    exact Ev.now _
-- ---- there and back
theorem pars_back : ∀ (ps : List PR) (n : Nat) (r : List UInt8), (∀ p ∈ ps, isName p.f0.data.toList = true) → ps.length < n → pars n (ps.flatMap ptx ++ 93 :: r) = some (ps, r)
  | [], n, r, _, hn => by
    obtain ⟨n, rfl⟩ : ∃ m, n = m + 1 := ⟨n - 1, by simp at hn; omega⟩
    rw [List.flatMap_nil, List.nil_append, pars, if_neg (by simp), if_pos (by simp)]
    rfl
  | p :: ps, n, r, h, hn => by
    rw [List.length_cons] at hn
    obtain ⟨n, rfl⟩ : ∃ m, n = m + 1 := ⟨n - 1, by omega⟩
    have ih := pars_back ps n r (fun x hx => h x (List.mem_cons_of_mem p hx)) (by omega)
    have hnm := name_free (h p List.mem_cons_self)
    have e : (p :: ps).flatMap ptx ++ 93 :: r = 32 :: (p.f0.data.toList ++ 61 :: 34 :: (esc p.f1.data.toList ++ 34 :: (ps.flatMap ptx ++ 93 :: r))) := by
      rw [List.flatMap_cons, List.append_assoc, ptx_app]
    have hs := nm_stop hnm (c := 61) (by decide) (34 :: (esc p.f1.data.toList ++ 34 :: (ps.flatMap ptx ++ 93 :: r)))
    rw [e, pars, if_pos (by simp)]
    simp only [List.drop_succ_cons, List.drop_zero]
    rw [hs.1, hs.2, if_pos (by simp)]
    simp only [List.drop_succ_cons, List.drop_zero]
    rw [val_esc]
    simp only [Option.bind_some, List.drop_succ_cons, List.drop_zero]
    rw [ih, ofL_of, ofL_of]
    rfl
theorem elem_back (x : EL) (n : Nat) (r : List UInt8) (h : okE x = true) (hn : x.f1.length < n) : elem n (x.f0.data.toList ++ (x.f1.flatMap ptx ++ 93 :: r)) = some (x, r) := by
  unfold okE at h
  rw [Bool.and_eq_true, Bool.and_eq_true, List.all_eq_true] at h
  have hps : ∀ p ∈ x.f1, isName p.f0.data.toList = true := by
    intro p hp
    have := h.2.2 p hp
    unfold okP at this
    rw [Bool.and_eq_true] at this
    exact this.1
  have hnm := name_free h.1
  have hs : nmA (x.f0.data.toList ++ (x.f1.flatMap ptx ++ 93 :: r)) = x.f0.data.toList ∧ nmB (x.f0.data.toList ++ (x.f1.flatMap ptx ++ 93 :: r)) = x.f1.flatMap ptx ++ 93 :: r := by
    cases hp : x.f1 with
    | nil => exact nm_stop hnm (c := 93) (by decide) r
    | cons p ps =>
      have e : (p :: ps).flatMap ptx ++ 93 :: r = 32 :: (p.f0.data.toList ++ 61 :: 34 :: (esc p.f1.data.toList ++ 34 :: (ps.flatMap ptx ++ 93 :: r))) := by
        rw [List.flatMap_cons, List.append_assoc, ptx_app]
      rw [e]
      exact nm_stop hnm (c := 32) (by decide) _
  unfold elem
  rw [hs.1, hs.2, pars_back x.f1 n r hps hn, ofL_of]
  rfl
theorem elems_back : ∀ (l : List EL) (n : Nat) (r : List UInt8), (∀ x ∈ l, okE x = true) → ¬ r.take 1 = [91] → (txt l ++ r).length < n → elems n (txt l ++ r) = some (l, r)
  | [], n, r, _, hr, hn => by
    obtain ⟨n, rfl⟩ : ∃ m, n = m + 1 := ⟨n - 1, by omega⟩
    show elems (n + 1) r = _
    rw [elems, if_neg hr]
  | x :: l, n, r, h, hr, hn => by
    have e3 : txt (x :: l) ++ r = 91 :: (x.f0.data.toList ++ (x.f1.flatMap ptx ++ 93 :: (txt l ++ r))) := by
      unfold txt
      rw [List.flatMap_cons, List.append_assoc, etx_app]
    have hlen := congrArg List.length e3
    rw [List.length_cons, List.length_append (bs := x.f1.flatMap ptx ++ 93 :: (txt l ++ r)), List.length_append (bs := 93 :: (txt l ++ r)), List.length_cons] at hlen
    have hpl : ∀ ps : List PR, ps.length ≤ (ps.flatMap ptx).length := by
      intro ps
      induction ps with
      | nil => exact Nat.le_refl _
      | cons p ps ih =>
        rw [List.flatMap_cons, List.length_append, List.length_cons, ptx_len]
        omega
    have hp1 := hpl x.f1
    obtain ⟨n, rfl⟩ : ∃ m, n = m + 1 := ⟨n - 1, by omega⟩
    rw [e3, elems, if_pos (by simp)]
    simp only [List.drop_succ_cons, List.drop_zero]
    rw [elem_back x (n + 1) _ (h x List.mem_cons_self) (by omega)]
    simp only [Option.bind_some]
    rw [elems_back l n r (fun y hy => h y (List.mem_cons_of_mem x hy)) hr (by omega)]
    rfl
theorem ckGo_ok : ∀ (l : List EL) (seen : List (List UInt8)), ckGo seen l = 0 → ∀ x ∈ l, okE x = true
  | [], _, _, x, hx => by cases hx
  | y :: l, seen, h, x, hx => by
    rw [ckGo] at h
    by_cases hc : okE y = true ∧ y.f0.data.toList ∉ seen
    · rw [if_pos hc] at h
      rcases List.mem_cons.mp hx with rfl | hx
      · exact hc.1
      · exact ckGo_ok l _ h x hx
    · rw [if_neg hc] at h
      exact absurd h (by decide)
theorem ck_ok {l : List EL} (h : ckD l = 0) : ∀ x ∈ l, okE x = true := by
  have h4 := ck_short h
  unfold ckD at h
  rw [if_neg (by omega)] at h
  exact ckGo_ok l [] h
theorem parsR_back (l : List EL) (r : List UInt8) (hc : ckD l = 0) (hn : l ≠ []) (hr : ¬ r.take 1 = [91]) : parsR (txt l ++ r) = (l, ofL r, 0) := by
  unfold parsR
  obtain ⟨x, l', rfl⟩ : ∃ x l', l = x :: l' := by
    cases l with
    | nil => exact absurd rfl hn
    | cons x l' => exact ⟨x, l', rfl⟩
  have e3 : txt (x :: l') ++ r = 91 :: (x.f0.data.toList ++ (x.f1.flatMap ptx ++ 93 :: (txt l' ++ r))) := by
    unfold txt
    rw [List.flatMap_cons, List.append_assoc, etx_app]
  have h45 : ¬ (txt (x :: l') ++ r).take 1 = [45] := by rw [e3]; simp
  rw [if_neg h45, elems_back (x :: l') _ r (ck_ok hc) hr (by omega)]
  simp only
  unfold fin
  rw [if_neg hn, if_pos hc]
/-- What is printed of parsed data is at most twice as long as what was parsed. -/
theorem pars_text (n : Nat) : ∀ (l : List UInt8) {ps : List PR} {r : List UInt8}, pars n l = some (ps, r) → (ps.flatMap ptx).length + 1 + r.length ≤ 2 * l.length - r.length ∧ r <:+ l := by
  induction n with
  | zero => intro l ps r h; simp [pars] at h
  | succ n ih =>
    intro l ps r h
    have hrl := (pars_len (n + 1) l h).1
    rw [pars] at h
    split at h
    · rename_i h1
      have e1 := congrArg List.length (take_one h1)
      rw [List.length_cons, List.length_drop] at e1
      split at h
      · rename_i h2
        obtain ⟨⟨v, q⟩, hv, h⟩ := Option.bind_eq_some_iff.mp h
        obtain ⟨⟨ps', r'⟩, hp, h⟩ := Option.map_eq_some_iff.mp h
        simp only at hp
        injection h with h3 h4
        simp only at h3 h4
        subst h3
        subst h4
        have h5 := (val_len _ hv).1
        have h5s := val_suffix _ hv
        have h6 := ih _ hp
        have hrl2 := (pars_len n _ hp).1
        have hnm := nm_app (l.drop 1)
        have hnl := congrArg List.length hnm
        have hBd := nmB_drop (l.drop 1)
        rw [List.length_append, List.length_drop] at hnl
        have he := (esc_len v).2
        have e2 := congrArg List.length (take_two h2)
        rw [List.length_cons, List.length_cons] at e2
        rw [List.length_drop] at h5 h6 e2 hrl2
        rw [List.flatMap_cons, List.length_append, ptx_len]
        simp only [ofL_size, ofL_L]
        refine ⟨by omega, ?_⟩
        refine h6.2.trans ((List.drop_suffix 1 q).trans ?_)
        rw [h5s]
        refine (List.drop_suffix _ _).trans ((List.drop_suffix 2 _).trans ?_)
        rw [hBd]
        exact (List.drop_suffix _ _).trans (List.drop_suffix 1 l)
      · cases h
    · split at h
      · rename_i h1
        have e1 := congrArg List.length (take_one h1)
        rw [List.length_cons, List.length_drop] at e1
        injection h with h
        injection h with h3 h4
        subst h3
        subst h4
        rw [List.flatMap_nil, List.length_nil, List.length_drop]
        exact ⟨by omega, List.drop_suffix 1 l⟩
      · cases h
end Go.Proofs.Ytgopphglkjdcaaa.Qt
end
/-! QtM -/
section
/- Data that are few and short; how long the text of parsed data is. -/
namespace Go.Proofs.Ytgopphglkjdcaaa.Qt
open Go Go.RowKit Go.Proofs.Ytgopphglkjdcaaa.Px Go.Proofs.YtgopphglkjdcaaaW.PrintWords Go.Proofs.Ytgopphglkjdcaaa.Str
theorem small_l1 (l : List EL) (hl : l.length ≤ 1073741824 * 8192) (i : Nat) (hi : i < l.length) (hw : l[i].f1.length ≤ 20) (b' : Bool) (hb : Ev (fun k => gonglaw10_small.l0 k l ((i + 1 : Nat) : Int)) b') (d : Nat) : ∀ j : Nat, j + d = l[i].f1.length →
    ∃ b, Ev (fun k => gonglaw10_small.l1 k l (i : Int) (j : Int)) b ∧ (b = true → b' = true ∧ ∀ p ∈ l[i].f1.drop j, mild p) := by
  induction d with
  | zero =>
    intro j hj
    refine ⟨b', Ev.step (fun k => ?_) hb, fun h => ⟨h, fun p hp => by rw [List.drop_eq_nil_of_le (by omega)] at hp; cases hp⟩⟩
    simp only [gonglaw10_small.l1]
    rw [if_pos (by omega), if_pos (by omega), rdE l i hi, if_neg (by omega), wrap64_id (by omega) (by omega)]
    rfl
  | succ d ih =>
    intro j hj
    have hj1 : j < l[i].f1.length := by omega
    by_cases h1 : (l[i].f1[j].f1.size : Int) > 1000
    · refine ⟨false, Ev.step (f := fun _ => some false) (fun k => ?_) (Ev.now _), fun h => by cases h⟩
      simp only [gonglaw10_small.l1]
      rw [if_pos (by omega), if_pos (by omega), rdE l i hi, if_pos (by omega), if_pos (by omega), rdP _ j hj1, if_pos h1]
    · by_cases h2 : (l[i].f1[j].f0.size : Int) > 100
      · refine ⟨false, Ev.step (f := fun _ => some false) (fun k => ?_) (Ev.now _), fun h => by cases h⟩
        simp only [gonglaw10_small.l1]
        rw [if_pos (by omega), if_pos (by omega), rdE l i hi, if_pos (by omega), if_pos (by omega), rdP _ j hj1, if_neg h1, if_pos h2]
      · obtain ⟨b, hev, hbb⟩ := ih (j + 1) (by omega)
        refine ⟨b, Ev.step (fun k => ?_) hev, fun h => ⟨(hbb h).1, fun p hp => ?_⟩⟩
        · simp only [gonglaw10_small.l1]
          rw [if_pos (by omega), if_pos (by omega), rdE l i hi, if_pos (by omega), if_pos (by omega), rdP _ j hj1, if_neg h1, if_neg h2, wrap64_id (by omega) (by omega)]
          rfl
        · rw [List.drop_eq_getElem_cons hj1] at hp
          rcases List.mem_cons.mp hp with rfl | hp
          · exact ⟨by omega, by omega⟩
          · exact (hbb h).2 p hp
theorem small_l0 (l : List EL) (hl : l.length ≤ 1073741824 * 8192) (d : Nat) : ∀ i : Nat, 40 ≤ i + d → i ≤ l.length → ∃ b, Ev (fun k => gonglaw10_small.l0 k l (i : Int)) b ∧ (b = true → ∀ m, (hm : m < l.length) → i ≤ m → m < 40 → tiny l[m]) := by
  have stop : ∀ i : Nat, ¬ (i < l.length ∧ i < 40) → Ev (fun k => gonglaw10_small.l0 k l (i : Int)) true := by
    intro i h
    refine Ev.step (f := fun k => gonglaw10_small.j2 k l (i : Int) false) (fun k => ?_) (Ev.step (f := fun _ => some true) (fun k => ?_) (Ev.now _))
    · simp only [gonglaw10_small.l0]
      by_cases h1 : (i : Int) < (l.length : Int)
      · rw [if_pos h1, decide_eq_false (by omega)]
      · rw [if_neg h1]
    · simp only [gonglaw10_small.j2]
      rw [if_neg (by decide)]
  induction d with
  | zero =>
    intro i h1 h2
    exact ⟨true, stop i (by omega), fun _ m hm h3 h4 => by omega⟩
  | succ d ih =>
    intro i h1 h2
    by_cases h : i < l.length ∧ i < 40
    case neg => exact ⟨true, stop i h, fun _ m hm h3 h4 => by omega⟩
    obtain ⟨hi, h40⟩ := h
    obtain ⟨b', hb', hP⟩ := ih (i + 1) (by omega) (by omega)
    have s1 : ∀ (b : Bool) (f : Nat → Option Bool), (∀ k, gonglaw10_small.j2 (k + 1) l (i : Int) true = f k) → Ev f b → Ev (fun k => gonglaw10_small.l0 k l (i : Int)) b := by
      intro b f hf hev
      refine Ev.step (f := fun k => gonglaw10_small.j2 k l (i : Int) true) (fun k => ?_) (Ev.step hf hev)
      simp only [gonglaw10_small.l0]
      rw [if_pos (by omega), decide_eq_true (by omega)]
    have no : Ev (fun k => gonglaw10_small.j3 k l (i : Int) true) false := by
      refine Ev.step (f := fun _ => some false) (fun k => ?_) (Ev.now _)
      simp only [gonglaw10_small.j3]
      rw [if_pos trivial]
    by_cases h20 : (l[i].f1.length : Int) > 20
    · refine ⟨false, s1 false (fun k => gonglaw10_small.j3 k l (i : Int) true) (fun k => ?_) no, fun z => by cases z⟩
      simp only [gonglaw10_small.j2]
      rw [if_pos trivial, if_pos (by omega), if_pos (by omega), rdE l i hi, if_pos h20]
    · by_cases h100 : (l[i].f0.size : Int) > 100
      · refine ⟨false, s1 false (fun k => gonglaw10_small.j3 k l (i : Int) true) (fun k => ?_) no, fun z => by cases z⟩
        simp only [gonglaw10_small.j2]
        rw [if_pos trivial, if_pos (by omega), if_pos (by omega), rdE l i hi, if_neg h20, decide_eq_true h100]
      · obtain ⟨b, hev, hbb⟩ := small_l1 l hl i hi (by omega) b' hb' l[i].f1.length 0 (by omega)
        refine ⟨b, s1 b (fun k => gonglaw10_small.j3 k l (i : Int) false) (fun k => ?_) (Ev.step (fun k => ?_) hev), fun z m hm h3 h4 => ?_⟩
        · simp only [gonglaw10_small.j2]
          rw [if_pos trivial, if_pos (by omega), if_pos (by omega), rdE l i hi, if_neg h20, decide_eq_false h100]
        · simp only [gonglaw10_small.j3]
          rw [if_neg (by decide)]
          rfl
        · have hz := hbb z
          rcases Nat.eq_or_lt_of_le h3 with rfl | h3
          · exact ⟨by omega, by omega, by simpa using hz.2⟩
          · exact hP hz.1 m hm h3 h4
theorem small_ev (l : List EL) (hl : l.length ≤ 1073741824 * 8192) : ∃ b, Ev (fun k => gonglaw10_small.f k l) b ∧ (b = true → l.length ≤ 4096 → l.length ≤ 20 ∧ ∀ x ∈ l, tiny x) := by
  have no : Ev (fun k => gonglaw10_small.j0 k l true) false := by
    refine Ev.step (f := fun _ => some false) (fun k => ?_) (Ev.now _)
    simp only [gonglaw10_small.j0]
    rw [if_pos trivial]
  obtain ⟨b, hev, hb⟩ := small_l0 l hl 40 0 (by omega) (by omega)
  have go : Ev (fun k => gonglaw10_small.j0 k l false) b := by
    refine Ev.step (fun k => ?_) hev
    simp only [gonglaw10_small.j0]
    rw [if_neg (by decide)]
    rfl
  unfold gonglaw10_small.f
  by_cases h8 : (l.length : Int) > 8192
  · refine ⟨false, Ev.congr (fun k => ?_) no, fun z => by cases z⟩
    rw [if_pos (by omega), if_neg (by omega), decide_eq_true h8]
  · by_cases h20 : (l.length : Int) > 20
    · by_cases h4 : (l.length : Int) ≤ 4096
      · exact ⟨false, Ev.congr (fun k => by rw [if_pos h20, if_pos h4]) no, fun z => by cases z⟩
      · exact ⟨b, Ev.congr (fun k => by rw [if_pos h20, if_neg h4, decide_eq_false h8]) go, fun _ z => by omega⟩
    · refine ⟨b, Ev.congr (fun k => by rw [if_neg h20, decide_eq_false h8]) go, fun z _ => ⟨by omega, fun x hx => ?_⟩⟩
      obtain ⟨m, hm, rfl⟩ := List.mem_iff_getElem.mp hx
      exact hb z m hm (Nat.zero_le _) (by omega)
theorem elems_text (n : Nat) : ∀ (l : List UInt8) {xs : List EL} {r : List UInt8}, elems n l = some (xs, r) → (txt xs).length + 2 * r.length ≤ 2 * l.length ∧ r <:+ l := by
  induction n with
  | zero => intro l xs r h; simp [elems] at h
  | succ n ih =>
    intro l xs r h
    rw [elems] at h
    split at h
    · rename_i h1
      have e1 := congrArg List.length (take_one h1)
      rw [List.length_cons, List.length_drop] at e1
      obtain ⟨⟨x, q⟩, hx, h⟩ := Option.bind_eq_some_iff.mp h
      obtain ⟨⟨xs', r'⟩, hr, h⟩ := Option.map_eq_some_iff.mp h
      simp only at hr
      injection h with h3 h4
      simp only at h3 h4
      subst h3
      subst h4
      have h5 := ih _ hr
      unfold elem at hx
      obtain ⟨⟨ps, r2⟩, hp, hx⟩ := Option.map_eq_some_iff.mp hx
      injection hx with h1 h2
      simp only at h1 h2
      subst h1
      subst h2
      have h6 := pars_text _ _ hp
      have hrl := (pars_len _ _ hp).1
      have hnm := congrArg List.length (nm_app (l.drop 1))
      rw [List.length_append, List.length_drop] at hnm
      have e3 : txt (⟨ofL (nmA (l.drop 1)), ps⟩ :: xs') = etx ⟨ofL (nmA (l.drop 1)), ps⟩ ++ txt xs' := by unfold txt; rw [List.flatMap_cons]
      rw [e3, List.length_append, etx_len]
      simp only [ofL_size]
      refine ⟨by omega, h5.2.trans (h6.2.trans ?_)⟩
      rw [nmB_drop]
      exact (List.drop_suffix _ _).trans (List.drop_suffix 1 l)
    · injection h with h
      injection h with h3 h4
      subst h3
      subst h4
      exact ⟨by show (0 : Nat) + _ ≤ _; omega, List.suffix_refl _⟩
theorem ptx_mem {p : PR} : ∀ {ps : List PR}, p ∈ ps → (ptx p).length ≤ (ps.flatMap ptx).length
  | q :: ps, h => by
    rw [List.flatMap_cons, List.length_append]
    rcases List.mem_cons.mp h with rfl | h
    · omega
    · have := ptx_mem h; omega
theorem etx_mem {x : EL} : ∀ {xs : List EL}, x ∈ xs → (etx x).length ≤ (txt xs).length
  | y :: xs, h => by
    have e : txt (y :: xs) = etx y ++ txt xs := by unfold txt; rw [List.flatMap_cons]
    rw [e, List.length_append]
    rcases List.mem_cons.mp h with rfl | h
    · omega
    · have := etx_mem h; omega
theorem ptx_many : ∀ ps : List PR, ps.length ≤ (ps.flatMap ptx).length
  | [] => Nat.le_refl _
  | p :: ps => by
    rw [List.flatMap_cons, List.length_append, List.length_cons, ptx_len]
    have := ptx_many ps
    omega
theorem tiny_text {xs : List EL} (h : (txt xs).length ≤ 4096) : ∀ x ∈ xs, tiny x := by
  intro x hx
  have h1 := etx_mem hx
  rw [etx_len] at h1
  have h2 := ptx_many x.f1
  refine ⟨by omega, by omega, fun p hp => ?_⟩
  have h3 := ptx_mem hp
  rw [ptx_len] at h3
  have h4 := (esc_len p.f1.data.toList).1
  rw [← size_L] at h4
  exact ⟨by omega, by omega⟩
theorem wide_tiny {xs : List EL} (h : ∀ x ∈ xs, tiny x) : ∀ x ∈ xs, x.f1.length ≤ 4611686018427387904 := fun x hx => by have := (h x hx).2.1; omega
theorem slim_tiny {xs : List EL} (h : ∀ x ∈ xs, tiny x) : slim xs := fun x hx => ⟨by have := (h x hx).1; omega, fun p hp => by have := (h x hx).2.2 p hp; unfold mild at this; omega⟩
end Go.Proofs.Ytgopphglkjdcaaa.Qt
end
/-! QtG -/
section
/- What is got of data. -/
namespace Go.Proofs.Ytgopphglkjdcaaa.Qt
open Go Go.RowKit Go.Proofs.Ytgopphglkjdcaaa.Px Go.Proofs.YtgopphglkjdcaaaW.PrintWords Go.Proofs.Ytgopphglkjdcaaa.Str
def getR (a n : ByteArray) : List EL → ByteArray × Bool
  | [] => (⟨#[]⟩, false)
  | x :: l => if x.f0.toList = a.toList then quote_Get.par n x.f1 else getR a n l
theorem idx_spec (a n : ByteArray) : ∀ (l : List EL) (i : Nat), (quote_Get.idx a l i < 0 ∧ getR a n l = (⟨#[]⟩, false)) ∨ ∃ j, ∃ h : j < l.length, quote_Get.idx a l i = ((i + j : Nat) : Int) ∧ getR a n l = quote_Get.par n l[j].f1
  | [], i => .inl ⟨by rw [quote_Get.idx]; decide, rfl⟩
  | x :: l, i => by
    rw [quote_Get.idx, getR]
    by_cases h : x.f0.toList = a.toList
    · rw [if_pos h, if_pos h]
      exact .inr ⟨0, by simp, rfl, rfl⟩
    · rw [if_neg h, if_neg h]
      rcases idx_spec a n l (i + 1) with ih | ⟨j, hj, h1, h2⟩
      · exact .inl ih
      · exact .inr ⟨j + 1, by simp; exact hj, by rw [h1]; congr 1; omega, h2⟩
theorem get_f (a n : ByteArray) (l : List EL) (hl : l.length ≤ 1073741824) (hw : ∀ x ∈ l, x.f1.length ≤ 4611686018427387904) : quote_Get.f l a n = some (getR a n l) := by
  unfold quote_Get.f
  rw [if_pos hl]
  rcases idx_spec a n l 0 with ⟨h1, h2⟩ | ⟨j, hj, h1, h2⟩
  · rw [if_pos h1, h2]
  · rw [Nat.zero_add] at h1
    rw [if_neg (by rw [h1]; omega), h1, rdE l j hj, if_pos (hw _ (List.getElem_mem hj)), h2]
theorem par_cases (n : ByteArray) : ∀ ps : List PR, (quote_Get.par n ps).2 = true ∨ (quote_Get.par n ps).1 = ⟨#[]⟩
  | [] => .inr rfl
  | p :: ps => by
    rw [quote_Get.par]
    split
    · exact .inl rfl
    · exact par_cases n ps
theorem get_cases (a n : ByteArray) : ∀ l : List EL, (getR a n l).2 = true ∨ (getR a n l).1 = ⟨#[]⟩
  | [] => .inr rfl
  | x :: l => by
    rw [getR]
    split
    · exact par_cases n _
    · exact get_cases a n l
end Go.Proofs.Ytgopphglkjdcaaa.Qt
end
/-! KQuoteWrites -/
section
/- The statement QuoteWrites over whole numbers and lists alone. -/
namespace Go.Proofs.Ytgopphglkjdcaaa.Qt
open Go Go.RowKit Go.Proofs.Ytgopphglkjdcaaa.Px Go.Proofs.YtgopphglkjdcaaaW.PrintWords Go.Proofs.Ytgopphglkjdcaaa.Str
theorem small_ev2 (l : List EL) (hl : l.length ≤ 1073741824 * 8192) : ∃ b, Ev (fun k => gonglaw10_small.f k l) b ∧ (b = true → (l.length ≤ 4096 → l.length ≤ 20 ∧ ∀ x ∈ l, tiny x) ∧ l.length ≤ 8192) := by
  by_cases h8 : (l.length : Int) > 8192
  · have no : Ev (fun k => gonglaw10_small.j0 k l true) false := by
      refine Ev.step (f := fun _ => some false) (fun k => ?_) (Ev.now _)
      simp only [gonglaw10_small.j0]
      rw [if_pos trivial]
    refine ⟨false, Ev.congr (fun k => ?_) no, fun z => by cases z⟩
    unfold gonglaw10_small.f
    rw [if_pos (by omega), if_neg (by omega), decide_eq_true h8]
  · obtain ⟨b, h1, h2⟩ := small_ev l hl
    exact ⟨b, h1, fun z => ⟨h2 z, by omega⟩⟩
theorem copied_l0 (l : List EL) (hl : l.length ≤ 3518437208782) (hw : ∀ x ∈ l, x.f1.length ≤ 4398046510976) (d : Nat) : ∀ i : Nat, i + d = l.length → Ev (fun k => gonglaw10_copied.l0 k l (l.take i) (i : Int)) l := by
  induction d with
  | zero =>
    intro i hi
    refine Ev.step (f := fun _ => some l) (fun k => ?_) (Ev.now _)
    simp only [gonglaw10_copied.l0]
    rw [if_neg (by omega), List.take_of_length_le (by omega)]
  | succ d ih =>
    intro i hi
    have h1 : i < l.length := by omega
    have h2 := hw l[i] (List.getElem_mem h1)
    refine Ev.step (fun k => ?_) (ih (i + 1) (by omega))
    simp only [gonglaw10_copied.l0]
    rw [if_pos (by omega), if_pos (by omega), Option.bind_some, rdE l i h1, if_pos (by simp only [List.length_nil]; omega), if_pos (by rw [List.length_take]; omega), wrap64_id (by omega) (by omega), List.take_succ_eq_append_getElem h1]
    simp only [List.nil_append]
    rfl
theorem copied_ev (l : List EL) (hl : l.length ≤ 3518437208782) (hw : ∀ x ∈ l, x.f1.length ≤ 4398046510976) : Ev (fun k => gonglaw10_copied.f k l) l := by
  have h := copied_l0 l hl hw l.length 0 (by omega)
  rw [List.take_zero] at h
  exact h
theorem refGet_l1 (n : ByteArray) (l : List EL) (hl : l.length ≤ 1073741824) (i : Nat) (hi : i < l.length) (hw : l[i].f1.length ≤ 4611686018427387904) (d : Nat) : ∀ j : Nat, j + d = l[i].f1.length → Ev (fun k => gongref10_Get.l1 k l n (i : Int) (j : Int)) (quote_Get.par n (l[i].f1.drop j)) := by
  induction d with
  | zero =>
    intro j hj
    rw [List.drop_eq_nil_of_le (by omega)]
    refine Ev.step (f := fun _ => some (⟨#[]⟩, false)) (fun k => ?_) (Ev.now _)
    simp only [gongref10_Get.l1]
    rw [if_pos (by omega), if_pos (by omega), rdE l i hi, if_neg (by omega)]
  | succ d ih =>
    intro j hj
    have h1 : j < l[i].f1.length := by omega
    rw [List.drop_eq_getElem_cons h1, quote_Get.par]
    by_cases h : l[i].f1[j].f0.toList = n.toList
    · rw [if_pos h]
      refine Ev.step (f := fun _ => some _) (fun k => ?_) (Ev.now _)
      simp only [gongref10_Get.l1]
      rw [if_pos (by omega), if_pos (by omega), rdE l i hi, if_pos (by omega), if_pos (by omega), rdP _ j h1, if_pos h]
    · rw [if_neg h]
      refine Ev.step (fun k => ?_) (ih (j + 1) (by omega))
      simp only [gongref10_Get.l1]
      rw [if_pos (by omega), if_pos (by omega), rdE l i hi, if_pos (by omega), if_pos (by omega), rdP _ j h1, if_neg h, wrap64_id (by omega) (by omega)]
      rfl
theorem refGet_l0 (a n : ByteArray) (l : List EL) (hl : l.length ≤ 1073741824) (hw : ∀ x ∈ l, x.f1.length ≤ 4611686018427387904) (d : Nat) : ∀ i : Nat, i + d = l.length → Ev (fun k => gongref10_Get.l0 k l a n (i : Int)) (getR a n (l.drop i)) := by
  induction d with
  | zero =>
    intro i hi
    rw [List.drop_eq_nil_of_le (by omega)]
    refine Ev.step (f := fun _ => some (⟨#[]⟩, false)) (fun k => ?_) (Ev.now _)
    simp only [gongref10_Get.l0]
    rw [if_neg (by omega)]
  | succ d ih =>
    intro i hi
    have h1 : i < l.length := by omega
    rw [List.drop_eq_getElem_cons h1, getR]
    by_cases h : l[i].f0.toList = a.toList
    · rw [if_pos h]
      refine Ev.step (fun k => ?_) (refGet_l1 n l hl i h1 (hw _ (List.getElem_mem h1)) l[i].f1.length 0 (by omega))
      simp only [gongref10_Get.l0]
      rw [if_pos (by omega), if_pos (by omega), rdE l i h1, if_pos h]
      rfl
    · rw [if_neg h]
      refine Ev.step (fun k => ?_) (ih (i + 1) (by omega))
      simp only [gongref10_Get.l0]
      rw [if_pos (by omega), if_pos (by omega), rdE l i h1, if_neg h, wrap64_id (by omega) (by omega)]
      rfl
theorem boundC {A P d C B : Nat} (ha : A + C * (d + 1 + 1) ≤ B) (hp : P ≤ C) : A + P + C * (d + 1) ≤ B := by
  have e : C * (d + 1 + 1) = C * (d + 1) + C := Nat.mul_succ C (d + 1)
  omega
theorem boundE {F P n : Nat} (h1 : F ≤ 1000000) (h2 : n ≤ 4096) (hp : P ≤ 4000000 * n) : 1 + F + (P + 1) ≤ 20000000000 := by
  have h : 4000000 * n ≤ 4000000 * 4096 := Nat.mul_le_mul_left _ h2
  omega
theorem boundF {A F n D : Nat} (ha : A + D ≤ 281474976710656) (h1 : F ≤ 1000000) (h2 : n ≤ 4096) : A + 1 + F + 4000000 * (n + 1) ≤ 562949953421312 :=
  Nat.le_trans (Nat.add_le_add (Nat.add_le_add (Nat.add_le_add (Nat.le_trans (Nat.le_add_right A D) ha) (Nat.le_refl 1)) h1) (Nat.mul_le_mul_left 4000000 (Nat.add_le_add_right h2 1))) (by decide)
theorem put_l1 (l : List EL) (hl : l.length ≤ 4096) (i : Nat) (hi : i < l.length) (ht : tiny l[i]) (R : ByteArray) (d : Nat) : ∀ (j : Nat) (acc : ByteArray), j + d = l[i].f1.length → acc.size + 4000000 * (d + 1) ≤ 562949953421312 →
    Ev (fun k => gongref10_Put.l0 k l (acc ++ ofL ((l[i].f1.drop j).flatMap ptx ++ [93])) ((i + 1 : Nat) : Int)) R → Ev (fun k => gongref10_Put.l1 k l acc (i : Int) (j : Int)) R := by
  have ht2 := ht.2.1
  induction d with
  | zero =>
    intro j acc hj ha hR
    rw [List.drop_eq_nil_of_le (by omega)] at hR
    refine Ev.step (fun k => ?_) hR
    simp only [gongref10_Put.l1]
    rw [if_pos (by omega), if_pos (by omega), rdE l i hi, if_neg (by omega), if_pos (by omega), wrap64_id (by omega) (by omega)]
    rfl
  | succ d ih =>
    intro j acc hj ha hR
    have h1 : j < l[i].f1.length := by omega
    have hm := ht.2.2 l[i].f1[j] (List.getElem_mem h1)
    have hm1 := hm.1
    have hm2 := hm.2
    have hp := ptx_le hm
    have he := (esc_len l[i].f1[j].f1.data.toList).2
    rw [← size_L] at he
    rw [List.drop_eq_getElem_cons h1] at hR
    have e : acc ++ ofL ((l[i].f1[j] :: l[i].f1.drop (j + 1)).flatMap ptx ++ [93]) = (acc ++ ofL (ptx l[i].f1[j])) ++ ofL ((l[i].f1.drop (j + 1)).flatMap ptx ++ [93]) := ext (by simp only [app_L, ofL_L, List.flatMap_cons, List.append_assoc])
    have bnd : acc.size + (ptx l[i].f1[j]).length + 4000000 * (d + 1) ≤ 562949953421312 := boundC ha hp
    have q1 : (acc ++ ofL (ptx l[i].f1[j])).size = acc.size + (ptx l[i].f1[j]).length := by rewrite [ByteArray.size_append, ofL_size]; rfl
    have q3 : (acc ++ ofL (ptx l[i].f1[j])).size + 4000000 * (d + 1) ≤ 562949953421312 := by rewrite [q1]; exact bnd
    clear q1
    rw [e] at hR
    have ih := ih (j + 1) (acc ++ ofL (ptx l[i].f1[j])) (by omega) q3 hR
    clear q3
    have s1 : ((⟨#[32]⟩ : ByteArray) ++ l[i].f1[j].f0).size = 1 + l[i].f1[j].f0.size := by rw [ByteArray.size_append]; rfl
    have s2 : (((⟨#[32]⟩ : ByteArray) ++ l[i].f1[j].f0) ++ (⟨#[61, 34]⟩ : ByteArray)).size = 1 + l[i].f1[j].f0.size + 2 := by rw [ByteArray.size_append, s1]; rfl
    have s3 : ((((⟨#[32]⟩ : ByteArray) ++ l[i].f1[j].f0) ++ (⟨#[61, 34]⟩ : ByteArray)) ++ ofL (esc l[i].f1[j].f1.data.toList)).size = 1 + l[i].f1[j].f0.size + 2 + (esc l[i].f1[j].f1.data.toList).length := by rw [ByteArray.size_append, s2, ofL_size]
    have e5 : ((((⟨#[32]⟩ : ByteArray) ++ l[i].f1[j].f0) ++ (⟨#[61, 34]⟩ : ByteArray)) ++ ofL (esc l[i].f1[j].f1.data.toList)) ++ (⟨#[34]⟩ : ByteArray) = ofL (ptx l[i].f1[j]) := ext (by simp [app_L, ptx])
    have W := Lib.hid (show wrap64 ((j : Int) + 1) = ((j + 1 : Nat) : Int) by rw [wrap64_id (by omega) (by omega)]; rfl)
    refine Ev.step (f := fun k => (gongref10_Escape.f k l[i].f1[j].f1).bind fun t309 => (if (((⟨#[32]⟩ : ByteArray) ++ l[i].f1[j].f0) ++ (⟨#[61, 34]⟩ : ByteArray)).size + t309.size ≤ 9223372036854775807 then (if ((((⟨#[32]⟩ : ByteArray) ++ l[i].f1[j].f0) ++ (⟨#[61, 34]⟩ : ByteArray)) ++ t309).size + 1 ≤ 9223372036854775807 then (if acc.size + (((((⟨#[32]⟩ : ByteArray) ++ l[i].f1[j].f0) ++ (⟨#[61, 34]⟩ : ByteArray)) ++ t309) ++ (⟨#[34]⟩ : ByteArray)).size ≤ 9223372036854775807 then (gongref10_Put.l1 k l (acc ++ (((((⟨#[32]⟩ : ByteArray) ++ l[i].f1[j].f0) ++ (⟨#[61, 34]⟩ : ByteArray)) ++ t309) ++ (⟨#[34]⟩ : ByteArray))) (i : Int) (wrap64 ((j : Int) + 1))) else (none)) else (none)) else (none))) (fun k => ?_) (Ev.bind (refEscape_ev l[i].f1[j].f1 (by omega)) ?_)
    · simp only [gongref10_Put.l1]
      rw [if_pos (by omega), if_pos (by omega), rdE l i hi, if_pos (by omega), if_pos (by omega), rdP _ j h1, if_pos (by omega), if_pos (by rw [s1]; omega)]
    · refine Ev.congr (fun k => ?_) ih
      rw [if_pos (by rw [s2, ofL_size]; omega), if_pos (by rw [s3]; omega), e5, if_pos (by rw [ofL_size]; omega), W.out]
theorem put_l0 (l : List EL) (hl : l.length ≤ 4096) (ht : ∀ x ∈ l, tiny x) (d : Nat) : ∀ (i : Nat) (acc : ByteArray), i + d = l.length → acc.size + 20000000000 * (d + 1) ≤ 281474976710656 → Ev (fun k => gongref10_Put.l0 k l acc (i : Int)) (acc ++ ofL (txt (l.drop i))) := by
  induction d with
  | zero =>
    intro i acc hi ha
    rw [List.drop_eq_nil_of_le (by omega)]
    refine Ev.step (f := fun _ => some (acc ++ ofL (txt []))) (fun k => ?_) (Ev.now _)
    simp only [gongref10_Put.l0]
    rw [if_neg (by omega)]
    congr 1
    exact ext (by simp [app_L, txt])
  | succ d ih =>
    intro i acc hi ha
    have h1 : i < l.length := by omega
    have hti := ht l[i] (List.getElem_mem h1)
    have hti1 := hti.1
    have hti2 := hti.2.1
    have hps := ptxs_le l[i].f1 hti.2.2
    rw [List.drop_eq_getElem_cons h1]
    have e : acc ++ ofL (txt (l[i] :: l.drop (i + 1))) = ((acc ++ ((⟨#[91]⟩ : ByteArray) ++ l[i].f0)) ++ ofL (l[i].f1.flatMap ptx ++ [93])) ++ ofL (txt (l.drop (i + 1))) := ext (by simp only [app_L, ofL_L, txt, etx, List.flatMap_cons, List.append_assoc, List.cons_append, List.nil_append])
    rw [e]
    have s0 : ((⟨#[91]⟩ : ByteArray) ++ l[i].f0).size = 1 + l[i].f0.size := by rw [ByteArray.size_append]; rfl
    have s1 : (acc ++ ((⟨#[91]⟩ : ByteArray) ++ l[i].f0)).size = acc.size + 1 + l[i].f0.size := by rw [ByteArray.size_append, s0]; omega
    have bnd : acc.size + (1 + l[i].f0.size + ((l[i].f1.flatMap ptx).length + 1)) + 20000000000 * (d + 1) ≤ 281474976710656 := boundC ha (boundE hti1 hti2 hps)
    have bnd2 : acc.size + 1 + l[i].f0.size + 4000000 * (l[i].f1.length + 1) ≤ 562949953421312 := boundF ha hti1 hti2
    have q2 : ((acc ++ ((⟨#[91]⟩ : ByteArray) ++ l[i].f0)) ++ ofL (l[i].f1.flatMap ptx ++ [93])).size = acc.size + (1 + l[i].f0.size + ((l[i].f1.flatMap ptx).length + 1)) := by rw [ByteArray.size_append, s1, ofL_size, List.length_append, List.length_singleton]; clear ha bnd bnd2 hps; omega
    have q4 : ((acc ++ ((⟨#[91]⟩ : ByteArray) ++ l[i].f0)) ++ ofL (l[i].f1.flatMap ptx ++ [93])).size + 20000000000 * (d + 1) ≤ 281474976710656 := by rewrite [q2]; exact bnd
    have q5 : (acc ++ ((⟨#[91]⟩ : ByteArray) ++ l[i].f0)).size + 4000000 * (l[i].f1.length + 1) ≤ 562949953421312 := by rewrite [s1]; exact bnd2
    have ih := ih (i + 1) ((acc ++ ((⟨#[91]⟩ : ByteArray) ++ l[i].f0)) ++ ofL (l[i].f1.flatMap ptx ++ [93])) (by clear q4 q5 q2 s1 s0; omega) q4
    refine Ev.step (fun k => ?_) (put_l1 l hl i h1 hti _ l[i].f1.length 0 (acc ++ ((⟨#[91]⟩ : ByteArray) ++ l[i].f0)) (by clear q4 q5 q2 s1 s0; omega) q5 (by rw [List.drop_zero]; exact ih))
    clear q4 q5 q2 s1
    simp only [gongref10_Put.l0]
    rw [if_pos (by omega), if_pos (by omega), rdE l i h1, if_pos (by omega), if_pos (by rewrite [s0]; omega)]
    rfl
theorem refPrint_ev (l : List EL) (hc : Ev (fun k => gongref10_Check.f k l) (ckD l)) (h : ckD l = 0 → ∀ x ∈ l, tiny x) : Ev (fun k => gongref10_Print.f k l) (printR l) := by
  unfold gongref10_Print.f printR
  refine Ev.bind hc ?_
  by_cases h0 : ckD l = 0
  · simp only [if_pos h0]
    have hl := ck_short h0
    by_cases hn : l = []
    · subst hn
      refine Ev.congr (f := fun _ => some ((⟨#[45]⟩ : ByteArray), (0 : Int))) (fun k => ?_) (Ev.now _)
      rw [gongref10_Put.f, if_pos (by rfl)]
      rfl
    · simp only [if_neg hn]
      have hnl : ¬ (l.length : Int) = 0 := fun z => hn (List.length_eq_zero_iff.mp (by omega))
      have hp := put_l0 l hl (h h0) l.length 0 ⟨#[]⟩ (by omega) (Nat.le_trans (Nat.add_le_add_left (Nat.mul_le_mul_left 20000000000 (Nat.add_le_add_right hl 1)) 0) (by decide))
      have e : (⟨#[]⟩ : ByteArray) ++ ofL (txt (l.drop 0)) = ofL (txt l) := ext (by simp [app_L])
      rw [e] at hp
      refine Ev.bind (g := fun k => gongref10_Put.f k l) (Ev.congr (fun k => by unfold gongref10_Put.f; rw [if_neg hnl]; rfl) hp) ?_
      by_cases hlong : 65536 < (txt l).length
      · rw [if_pos hlong]
        exact Ev.congr (f := fun _ => some _) (fun k => if_pos (by rw [ofL_size]; omega)) (Ev.now _)
      · rw [if_neg hlong]
        exact Ev.congr (f := fun _ => some _) (fun k => if_neg (by rw [ofL_size]; omega)) (Ev.now _)
  · simp only [if_neg h0]
    exact Ev.now _
theorem refCheck_big (l : List EL) (h : 4096 < l.length) : Ev (fun k => gongref10_Check.f k l) (ckD l) := by
  unfold gongref10_Check.f ckD
  rw [if_pos h]
  exact Ev.congr (f := fun _ => some 100) (fun k => if_pos (by omega)) (Ev.now _)
end Go.Proofs.Ytgopphglkjdcaaa.Qt
namespace Go.Proofs.Ytgopphglkjdcaaa.Pure
open Go Go.RowKit Go.Proofs.Ytgopphglkjdcaaa.Px Go.Proofs.YtgopphglkjdcaaaW.PrintWords Go.Proofs.Ytgopphglkjdcaaa.Str Go.Proofs.Ytgopphglkjdcaaa.Qt
theorem QuoteWrites (l0 l1 : List EL) (x : ByteArray × ByteArray)
    (wf0 : ∀ z ∈ l0, (z.f0.size ≤ 140737488351232 ∧ ((∀ q ∈ z.f1, (q.f0.size ≤ 140737488351232 ∧ q.f1.size ≤ 140737488351232)) ∧ z.f1.length * 32 ≤ 140737488351232))) (y0 : l0.length * 40 ≤ 140737488351232)
    (_wf1 : ∀ z ∈ l1, (z.f0.size ≤ 140737488351232 ∧ ((∀ q ∈ z.f1, (q.f0.size ≤ 140737488351232 ∧ q.f1.size ≤ 140737488351232)) ∧ z.f1.length * 32 ≤ 140737488351232))) (y1 : l1.length * 40 ≤ 140737488351232)
    {p : Prop} (_wf2 : p) : ∃ k, gonglaw10_QuoteWrites.f k l0 l1 x = some true := by
  suffices H : Ev (fun k => gonglaw10_QuoteWrites.f k l0 l1 x) true from H.rounds
  unfold gonglaw10_QuoteWrites.f
  obtain ⟨b0, hb0, hp0⟩ := small_ev2 l0 (by omega)
  obtain ⟨b1, hb1, hp1⟩ := small_ev2 l1 (by omega)
  refine Ev.bind hb0 ?_
  cases b0 with
  | false => exact Ev.congr (fun k => if_pos rfl) works_ev
  | true =>
  refine Ev.congr (fun k => if_neg (by simp)) (Ev.bind hb1 ?_)
  cases b1 with
  | false => exact Ev.congr (fun k => if_pos rfl) works_ev
  | true =>
  obtain ⟨hs0, h8⟩ := hp0 rfl
  have hw : ∀ x ∈ l0, x.f1.length ≤ 4611686018427387904 := fun z hz => by have := (wf0 z hz).2.2; omega
  have hwide : wide l0 := ⟨by omega, hw⟩
  have hck : Ev (fun k => quote_Check.f k l0) (ckD l0) := by
    by_cases h4 : 4096 < l0.length
    · exact check_big l0 h4
    · exact check_ev l0 (slim_tiny (hs0 (by omega)).2)
  have hrck : Ev (fun k => gongref10_Check.f k l0) (ckD l0) := by
    by_cases h4 : 4096 < l0.length
    · exact refCheck_big l0 h4
    · exact refCheck_ev l0 hwide (slim_tiny (hs0 (by omega)).2)
  have htiny : ckD l0 = 0 → ∀ x ∈ l0, tiny x := fun hc => (hs0 (ck_short hc)).2
  have hgo : Ev (fun k => (gonglaw10_copied.f k l0).bind fun own => (quote_Print.f k own).bind fun a => (gongref10_Print.f k l0).bind fun b => (quote_Get.f own x.1 x.2).bind fun v => (gongref10_Get.f k l0 x.1 x.2).bind fun u =>
      (quote_Check.f k own).bind fun c1 => (gongref10_Check.f k l0).bind fun c2 => (quote_Same.f k own l1).bind fun s2 => (gongref10_Same.f k l0 l1).bind fun s3 => (gongref10_Same.f k own l0).bind fun s4 => (gonglaw10_works.f k).bind fun t =>
      if a = b ∧ v = u ∧ c1 = c2 ∧ s2 = s3 ∧ s4 = true ∧ t = true then some true else none) true := by
    refine Ev.bind (copied_ev l0 (by omega) (fun z hz => by have := (wf0 z hz).2.2; omega)) ?_
    refine Ev.bind (print_ev l0 hck htiny) ?_
    refine Ev.bind (refPrint_ev l0 hrck htiny) ?_
    have hget := refGet_l0 x.1 x.2 l0 (by omega) hw l0.length 0 (by omega)
    rw [List.drop_zero] at hget
    refine Ev.congr (f := fun k => (gongref10_Get.f k l0 x.1 x.2).bind fun u =>
      (quote_Check.f k l0).bind fun c1 => (gongref10_Check.f k l0).bind fun c2 => (quote_Same.f k l0 l1).bind fun s2 => (gongref10_Same.f k l0 l1).bind fun s3 => (gongref10_Same.f k l0 l0).bind fun s4 => (gonglaw10_works.f k).bind fun t =>
      if printR l0 = printR l0 ∧ getR x.1 x.2 l0 = u ∧ c1 = c2 ∧ s2 = s3 ∧ s4 = true ∧ t = true then some true else none) (fun k => by rw [get_f x.1 x.2 l0 (by omega) hw, Option.bind_some]) ?_
    refine Ev.bind (g := fun k => gongref10_Get.f k l0 x.1 x.2) hget ?_
    refine Ev.bind hck (Ev.bind hrck (Ev.bind (same_ev l0 l1 (by omega) hw) (Ev.bind (refSame_ev l0 l1 hwide) (Ev.bind (refSame_ev l0 l0 hwide) (Ev.bind works_ev ?_)))))
    exact Ev.congr (f := fun _ => some true) (fun k => if_pos ⟨rfl, rfl, rfl, rfl, eqEs_iff.mpr rfl, rfl⟩) (Ev.now _)
  exact Ev.congr (fun k => if_neg (by simp)) hgo
end Go.Proofs.Ytgopphglkjdcaaa.Pure
end
/-! Opens -/
section
/- What came in and can be read as data is what the print's kinds say: whole numbers, bools, texts, structs, slices, in one another. -/
namespace Go.Proofs.Ytgopphglkjdcaaa.Open
open Go Go.RowKit Go.Proofs.YtgopphglkjdcaaaW.PrintWords

/-- R: what each text, and each slice's places, weigh at most. -/
def Opens (R : Nat) {α : Type} (d : Kd α) (P : Program) (t : TypeId) (WF : α → Prop) : Prop :=
  P.cellsOf t = d.sz ∧ ∀ (H : Type) (enc : TypeId × Value → H) (W : World) (base : Nat) (sp : Nat → Bool) (held : Bool) (fuel : Nat) (cs : List Value) (y : DataW H) (p : List MemPlace),
    DataW.trod enc P W base sp held fuel t cs = some (y, p) → (∀ n ∈ y.weights P t, n ≤ R) → ∃ x, d.K W x cs ∧ WF x

theorem int {R : Nat} {P : Program} {t : TypeId} {k : IntKind} (h : P.underlying t = some (.int k)) (hc : P.cellsOf t = 1) : Opens R (Kd.int k) P t (fun n => (Lit.int k n).wf = true) := by
  refine ⟨hc, fun H enc W base sp held fuel cs y p ht _ => ?_⟩
  obtain ⟨n, rfl, _, hw⟩ := DataW.trod_int h ht
  exact ⟨n, rfl, hw⟩
theorem bool {R : Nat} {P : Program} {t : TypeId} (h : P.underlying t = some .bool) (hc : P.cellsOf t = 1) : Opens R Kd.bool P t (fun _ => True) := by
  refine ⟨hc, fun H enc W base sp held fuel cs y p ht _ => ?_⟩
  cases fuel with
  | zero => simp [DataW.trod] at ht
  | succ fuel =>
    simp only [DataW.trod, h] at ht
    split at ht <;> first | (rename_i h1 h2; cases h1) | skip
    all_goals first | (cases ht; done) | skip
    all_goals simp_all
    · exact .inl rfl
    · exact .inr rfl
theorem string {R : Nat} {P : Program} {t : TypeId} (h : P.underlying t = some .string) (hc : P.cellsOf t = 1) : Opens R Kd.string P t (fun s => s.size ≤ R) := by
  refine ⟨hc, fun H enc W base sp held fuel cs y p ht hw => ?_⟩
  obtain ⟨s, rfl, he, hs⟩ := DataW.trod_string h ht
  obtain ⟨rfl, rfl⟩ := Prod.mk.inj he
  refine ⟨s, rfl, ?_⟩
  have := hw s.data.toList.length (by simp [DataW.weights])
  simpa using this

theorem choose_list {α : Type} {Q : Nat → α → Prop} : ∀ n, (∀ i, i < n → ∃ x, Q i x) → ∃ l : List α, l.length = n ∧ ∀ i x, l[i]? = some x → Q i x
  | 0, _ => ⟨[], rfl, fun i x h => by simp at h⟩
  | n + 1, h => by
    obtain ⟨l, hl, hq⟩ := choose_list n (fun i hi => h i (by omega))
    obtain ⟨x, hx⟩ := h n (by omega)
    refine ⟨l ++ [x], by simp [hl], fun i y hy => ?_⟩
    rcases Nat.lt_trichotomy i n with hlt | rfl | hgt
    · rw [List.getElem?_append_left (by omega)] at hy
      exact hq i y hy
    · rw [List.getElem?_append_right (by omega), hl] at hy
      simp at hy
      subst hy
      exact hx
    · rw [List.getElem?_append_right (by omega)] at hy
      rw [List.getElem?_eq_none (by simp; omega)] at hy
      cases hy

theorem weights_all {H : Type} {P : Program} {e : TypeId} : ∀ {l : List (DataW H)} {i : Nat} {d : DataW H}, l[i]? = some d → ∀ n ∈ d.weights P e, n ∈ DataW.weightsAll P e l
  | x :: l, 0, d, h, n, hn => by
    simp only [List.getElem?_cons_zero, Option.some.injEq] at h
    subst h
    simp only [DataW.weightsAll, List.mem_append]
    exact .inl hn
  | x :: l, i + 1, d, h, n, hn => by
    simp only [List.getElem?_cons_succ] at h
    simp only [DataW.weightsAll, List.mem_append]
    exact .inr (weights_all h n hn)
  | [], _, _, h, _, _ => by simp at h

theorem cells_at {w : World} {base : Nat} {a : Addr} {n : Nat} {cs : List Value} (h : w.cells? base a n = some cs) : cs.length = n ∧ ∀ j u, cs[j]? = some u → w.cell? (a.add j) = some u := by
  unfold World.cells? at h
  split at h
  · have hl := Lib.mapM_length h
    simp at hl
    refine ⟨hl, fun j u hu => ?_⟩
    have hj : j < n := by
      rcases Nat.lt_or_ge j n with h' | h'
      · exact h'
      · rw [List.getElem?_eq_none (by omega)] at hu
        cases hu
    obtain ⟨b, hb, hf⟩ := Lib.mapM_at h j j (by simp [hj])
    rw [hu] at hb
    injection hb with hb
    subst hb
    exact hf
  · cases h

/-- A slice's elements, up to its length. -/
theorem slice_elems {R : Nat} {α : Type} {d : Kd α} {P : Program} {t e : TypeId} {WF : α → Prop} (ht : P.underlying t = some (.slice e)) (hd : Opens R d P e WF)
    {H : Type} {enc : TypeId × Value → H} {W : World} {base : Nat} {sp : Nat → Bool} {held : Bool} {fuel : Nat} {A : Option Addr} {len cap : Nat} {y : DataW H} {p : List MemPlace}
    (h : DataW.trod enc P W base sp held fuel t [.slice A len cap] = some (y, p)) (hw : ∀ n ∈ y.weights P t, n ≤ R) :
    ∃ l : List α, l.length = len ∧ Kd.C d W A len l ∧ len ≤ cap ∧ (∀ x ∈ l, WF x) ∧ len * P.bytesOf e ≤ R := by
  cases fuel with
  | zero => simp [DataW.trod] at h
  | succ fuel =>
    cases A with
    | none =>
      have h' := h
      simp only [DataW.trod, ht] at h'
      split at h' <;> simp_all
      exact Kd.C_nil d W
    | some a =>
      simp only [DataW.trod, ht] at h
      split at h
      · rename_i hb
        obtain ⟨elems, hm, h⟩ := Option.bind_eq_some_iff.1 h
        obtain ⟨rest, hr, h⟩ := Option.map_eq_some_iff.1 h
        simp only [Prod.mk.injEq] at h
        obtain ⟨rfl, rfl⟩ := h
        have hel : elems.length = len := by simpa using Lib.mapM_length hm
        simp only [DataW.weights, ht, List.mem_cons, List.mem_append] at hw
        have hsz := hw _ (.inl rfl)
        simp only [List.length_map, hel] at hsz
        have hex : ∀ i, i < len → ∃ x, (∃ c, c.length = d.sz ∧ d.K W x c ∧ ∀ j u, c[j]? = some u → W.cell? (a.add (i * d.sz + j)) = some u) ∧ WF x := by
          intro i hi
          obtain ⟨b, hb', hf⟩ := Lib.mapM_at hm i i (by simp [hi])
          obtain ⟨c, hc, hf⟩ := Option.bind_eq_some_iff.1 hf
          obtain ⟨hcl, hcell⟩ := cells_at hc
          obtain ⟨yb, pb⟩ := b
          obtain ⟨x, hx, hwf⟩ := hd.2 H enc W base sp held fuel c yb pb hf (fun n hn => hw n (.inr (.inl (weights_all (i := i) (d := yb) (by simp [hb']) n hn))))
          rw [hd.1] at hcell hcl
          exact ⟨x, ⟨c, hcl, hx, fun j u hu => by rw [← hcell j u hu, Addr.add_add]⟩, hwf⟩
        obtain ⟨l, hl, hq⟩ := choose_list len hex
        refine ⟨l, hl, ⟨hl, by have := hb.2; unfold maxLen at this; omega, fun _ => ⟨a, rfl, fun j x hx => (hq j x hx).1⟩⟩, hb.2.1, fun x hx => ?_, ?_⟩
        · obtain ⟨i, hi⟩ := List.mem_iff_getElem?.1 hx
          exact (hq i x hi).2
        · have h1 : len * P.bytesOf e ≤ (len + rest.length) * P.bytesOf e := Nat.mul_le_mul_right _ (by omega)
          omega
      · cases h
theorem slice {R : Nat} {α : Type} {d : Kd α} {P : Program} {t e : TypeId} {WF : α → Prop} (ht : P.underlying t = some (.slice e)) (hd : Opens R d P e WF) (hc : P.cellsOf t = 1) :
    Opens R (Kd.slice e d) P t (fun l => (∀ x ∈ l, WF x) ∧ l.length * P.bytesOf e ≤ R) := by
  refine ⟨hc, fun H enc W base sp held fuel cs y p h hw => ?_⟩
  have hform : ∃ A len cap, cs = [.slice A len cap] := by
    cases fuel with
    | zero => simp [DataW.trod] at h
    | succ fuel =>
      have h' := h
      simp only [DataW.trod, ht] at h'
      split at h' <;> first | exact ⟨_, _, _, rfl⟩ | (simp_all; done) | skip
      all_goals (simp_all)
  obtain ⟨A, len, cap, rfl⟩ := hform
  obtain ⟨l, hl, hC, hcap, hwf, hb⟩ := slice_elems ht hd h hw
  subst hl
  exact ⟨l, ⟨A, cap, rfl, hcap, hC⟩, hwf, hb⟩

/-- A struct's fields from one place on. -/
def Fields (R : Nat) {α : Type} (d : Kd α) (P : Program) (fs : List Field) (o : Nat) (WF : α → Prop) : Prop :=
  ∀ (H : Type) (enc : TypeId × Value → H) (W : World) (base : Nat) (sp : Nat → Bool) (held : Bool) (fuel : Nat) (cs : List Value) (xs : List (DataW H × List MemPlace)), cs.length = o + d.sz →
    (fs.mapM fun f => DataW.trod enc P W base sp held fuel f.type ((cs.drop f.offset).take (P.cellsOf f.type))) = some xs → (∀ n ∈ DataW.weightsEach P (fs.map (·.type)) (xs.map (·.1)), n ≤ R) → ∃ x, d.K W x (cs.drop o) ∧ WF x
theorem field_last {R : Nat} {α : Type} {d : Kd α} {P : Program} {f : Field} {o : Nat} {WF : α → Prop} (ho : f.offset = o) (hd : Opens R d P f.type WF) : Fields R d P [f] o WF := by
  intro H enc W base sp held fuel cs xs hl hm hw
  simp only [List.mapM_cons, List.mapM_nil, Option.bind_eq_bind, Option.bind_eq_some_iff, Option.pure_def, Option.some.injEq] at hm
  obtain ⟨⟨y, p⟩, hy, _, rfl, rfl⟩ := hm
  rw [ho, hd.1, List.take_of_length_le (by simp; omega)] at hy
  exact hd.2 H enc W base sp held fuel _ y p hy (fun n hn => hw n (by simp [DataW.weightsEach, hn]))
theorem field_more {R : Nat} {α β : Type} {d0 : Kd α} {d1 : Kd β} {P : Program} {f : Field} {fs : List Field} {o : Nat} {WF0 : α → Prop} {WF1 : β → Prop} (ho : f.offset = o) (h0 : Opens R d0 P f.type WF0) (h1 : Fields R d1 P fs (o + d0.sz) WF1) :
    Fields R (Kd.pair d0 d1) P (f :: fs) o (fun x => WF0 x.1 ∧ WF1 x.2) := by
  intro H enc W base sp held fuel cs xs hl hm hw
  simp only [List.mapM_cons, Option.bind_eq_bind, Option.bind_eq_some_iff, Option.pure_def, Option.some.injEq] at hm
  obtain ⟨⟨y, p⟩, hy, ys, hys, rfl⟩ := hm
  have hl' : cs.length = (o + d0.sz) + d1.sz := by rw [hl]; show o + (d0.sz + d1.sz) = _; omega
  rw [ho, h0.1] at hy
  obtain ⟨x0, hx0, hw0⟩ := h0.2 H enc W base sp held fuel _ y p hy (fun n hn => hw n (by simp [DataW.weightsEach, hn]))
  obtain ⟨x1, hx1, hw1⟩ := h1 H enc W base sp held fuel cs ys hl' hys (fun n hn => hw n (by simp only [List.map_cons, DataW.weightsEach, List.mem_append]; exact .inr hn))
  refine ⟨(x0, x1), ⟨(cs.drop o).take d0.sz, cs.drop (o + d0.sz), ?_, hx0, hx1⟩, hw0, hw1⟩
  rw [← List.drop_drop, List.take_append_drop]
theorem struct {R : Nat} {α β : Type} {d : Kd α} {P : Program} {t : TypeId} {fs : Array Field} {WF : α → Prop} (ht : P.underlying t = some (.struct fs)) (hc : P.cellsOf t = d.sz) (hf : Fields R d P fs.toList 0 WF) (f : β → α) (g : α → β) (hg : ∀ y, f (g y) = y) :
    Opens R (Kd.iso d f) P t (fun b => WF (f b)) := by
  refine ⟨hc, fun H enc W base sp held fuel cs y p h hw => ?_⟩
  cases fuel with
  | zero => simp [DataW.trod] at h
  | succ fuel =>
    simp only [DataW.trod, ht] at h
    split at h
    · rename_i hl
      obtain ⟨xs, hm, hx⟩ := Option.map_eq_some_iff.1 h
      simp only [Prod.mk.injEq] at hx
      obtain ⟨rfl, rfl⟩ := hx
      obtain ⟨x, hK, hwf⟩ := hf H enc W base sp held fuel cs xs (by omega) hm (fun n hn => hw n (by simpa [DataW.weights, ht] using hn))
      rw [List.drop_zero] at hK
      exact ⟨g x, by show d.K W (f (g x)) cs; rw [hg]; exact hK, by show WF (f (g x)); rw [hg]; exact hwf⟩
    · cases h
/-- An argument that is a slice. -/
theorem slice_arg {R : Nat} {α : Type} {d : Kd α} {P : Program} {t e : TypeId} {WF : α → Prop} (ht : P.underlying t = some (.slice e)) (hd : Opens R d P e WF)
    {H : Type} {enc : TypeId × Value → H} {W : World} {base : Nat} {sp : Nat → Bool} {held : Bool} {A : Option Addr} {len cap : Nat} {y : DataW H} {p : List MemPlace} {ts : List TypeId} {ds : List (DataW H)}
    (h : DataW.Trod enc P W base sp held t (.slice A len cap) y p) (hsz : (DataW.weightsEach P ts ds).all (· ≤ R) = true) {j : Nat} (htj : ts[j]? = some t) (hdj : ds[j]? = some y) :
    ∃ l : List α, len = l.length ∧ Kd.C d W A l.length l ∧ l.length ≤ cap ∧ (∀ x ∈ l, WF x) ∧ l.length * P.bytesOf e ≤ R := by
  obtain ⟨fuel, hf⟩ := h
  have hw : ∀ n ∈ y.weights P t, n ≤ R := fun n hn => by simpa using List.all_eq_true.1 hsz n (DataW.weights_mem_each htj hdj n hn)
  obtain ⟨l, hl, hC, hcap, hwf, hb⟩ := slice_elems ht hd (by simpa [Value.cells] using hf) hw
  subst hl
  exact ⟨l, rfl, hC, hcap, hwf, hb⟩
/-- An argument that is a struct or an array by value. -/
theorem agg_arg {R : Nat} {α : Type} {d : Kd α} {P : Program} {t : TypeId} {WF : α → Prop} (hd : Opens R d P t WF)
    {H : Type} {enc : TypeId × Value → H} {W : World} {base : Nat} {sp : Nat → Bool} {held : Bool} {cs : Array Value} {y : DataW H} {p : List MemPlace} {ts : List TypeId} {ds : List (DataW H)}
    (h : DataW.Trod enc P W base sp held t (.agg cs) y p) (hsz : (DataW.weightsEach P ts ds).all (· ≤ R) = true) {j : Nat} (htj : ts[j]? = some t) (hdj : ds[j]? = some y) :
    ∃ x, d.K W x cs.toList ∧ WF x := by
  obtain ⟨fuel, hf⟩ := h
  have hw : ∀ n ∈ y.weights P t, n ≤ R := fun n hn => by simpa using List.all_eq_true.1 hsz n (DataW.weights_mem_each htj hdj n hn)
  exact hd.2 H enc W base sp held fuel cs.toList y p (by simpa [Value.cells] using hf) hw
theorem okWide_array {P : Program} {w : World} {r : Reach} {base : Nat} {t e : TypeId} {n : Nat} {v : Value} (ht : P.underlying t = some (.array n e)) (h : Value.okWide P w r base t v) : ∃ cs, v = .agg cs ∧ cs.size = P.cellsOf t := by
  simp only [Value.okWide, ht] at h
  obtain ⟨cs, h1, h2, _⟩ := h
  exact ⟨cs, h1, h2⟩
theorem array2 {R : Nat} {α : Type} {d : Kd α} {P : Program} {t e : TypeId} {WF : α → Prop} (ht : P.underlying t = some (.array 2 e)) (hd : Opens R d P e WF) (hc : P.cellsOf t = d.sz + d.sz) :
    Opens R (Kd.pair d d) P t (fun x => WF x.1 ∧ WF x.2) := by
  refine ⟨hc, fun H enc W base sp held fuel cs y p h hw => ?_⟩
  cases fuel with
  | zero => simp [DataW.trod] at h
  | succ n =>
    simp only [DataW.trod, ht] at h
    split at h
    · rename_i hl
      obtain ⟨xs, hm, hx⟩ := Option.map_eq_some_iff.1 h
      simp only [Prod.mk.injEq] at hx
      obtain ⟨rfl, rfl⟩ := hx
      have r2 : List.range 2 = [0, 1] := rfl
      simp only [r2, List.mapM_cons, List.mapM_nil, Option.bind_eq_bind, Option.bind_eq_some_iff, Option.pure_def, Option.some.injEq] at hm
      obtain ⟨⟨y0, p0⟩, h0, ys, ⟨⟨y1, p1⟩, h1, zs, rfl, rfl⟩, rfl⟩ := hm
      rw [hd.1] at h0 h1
      simp only [DataW.weights, ht, List.map_cons, List.map_nil, DataW.weightsAll, List.mem_append] at hw
      obtain ⟨x0, k0, w0⟩ := hd.2 H enc W base sp held n _ y0 p0 h0 (fun m hm => hw m (.inl hm))
      obtain ⟨x1, k1, w1⟩ := hd.2 H enc W base sp held n _ y1 p1 h1 (fun m hm => hw m (.inr (.inl hm)))
      refine ⟨(x0, x1), ⟨_, _, ?_, k0, k1⟩, w0, w1⟩
      rw [Nat.zero_mul, List.drop_zero, Nat.one_mul, List.take_of_length_le (l := cs.drop d.sz) (by rw [List.length_drop]; omega), List.take_append_drop]
    · cases h
end Go.Proofs.Ytgopphglkjdcaaa.Open
end
/-! RQuoteWrites -/
section
/- QuoteWrites: for every input that the row speaks of the law returns true, and what came in reads as it did. No condition beside the form's own reach. -/
namespace Go.Proofs.Ytgopphglkjdcaaa.quoteWrites
open Go.ChangeShapes Go.WideShapes Go.ChangeAt Go.RowKit Go.Proofs.YtgopphglkjdcaaaW.PrintWords
open Go.ChangeMaps (open_string shut_string)
theorem own : ownKnob Try.prog.godebug = none := by kernel_rfl
theorem laidOut : laidOutB Try.prog = true := by kernel_rfl
set_option maxRecDepth 100000 in
theorem lifted (os : Os) (started : os.Started) (H : Type) (enc : TypeId × Value → H) :
    ReturnsInHanded {} Try.checked os 6 .any (Rows.quoteWritesSpec.pre6 enc Try.prog Try.f6 Rows.quoteWritesRow.domain false) (Rows.quoteWritesSpec.post enc Try.prog Try.f6 false true false false) := by
  refine returnsInHanded_of_change_sized (C := Try.checked) own started (by kernel_rfl) Try.func6
    (ChangeSpec.witness6 (enc := enc) (C := Try.checked) false ⟨#[], #[.slice none 0 0, .slice none 0 0, .agg #[.string ByteArray.empty, .string ByteArray.empty]], []⟩ 8 (by kernel_rfl) (by kernel_rfl) (by kernel_rfl) (by kernel_rfl)) ?_
  intro W base args ds gs before hval0 hW _ hsz0 _
  have hsz : (DataW.weightsEach Try.prog (Try.f6.params.toList ++ Rows.quoteWritesSpec.plain.varTypes Try.prog) (ds ++ gs)).all (· ≤ reachBytes) = true := hsz0
  have hval : ∀ (j : Nat) t v, Try.f6.params[j]? = some t → args[j]? = some v → Value.okWide Try.prog W .any base t v := hval0
  have hW' := hW
  obtain ⟨p, q, hA0, hV, rfl, hfz, hnd⟩ := hW
  have hA : DataW.TrodAll enc Try.prog W 0 (fun _ => true) true Try.f6.params.toList args.toList ds p := hA0
  rw [Try.params6] at hA hval hsz
  obtain ⟨v0, vs0, d0, ds0, p0, q0, hargs, rfl, rfl, h0, r0⟩ := trodAll_cons hA
  obtain ⟨v1, vs1, d1, ds1, p1, q1, rfl, rfl, rfl, h1, r1⟩ := trodAll_cons r0
  obtain ⟨v2, vs2, d2, ds2, p2, q2, rfl, rfl, rfl, h2, r2⟩ := trodAll_cons r1
  obtain ⟨rfl, rfl, rfl⟩ := trodAll_nil r2
  obtain rfl : args = #[v0, v1, v2] := by cases args; simp_all
  obtain ⟨rfl, rfl⟩ := trodVars_none hV
  obtain ⟨a0, len0, cap0, rfl⟩ := okWide_slice Try.underlying23 (hval 0 23 v0 rfl rfl)
  have k0 := h0
  have lt0 : ∀ x ∈ p0, x.block < W.heap.size := by obtain ⟨m, hm⟩ := k0; exact DataW.trod_lt m _ _ _ hm
  obtain ⟨l0, rfl, hr0, hc0, wf0, y0⟩ := Open.slice_arg (d := Px.k35) Try.underlying23 (Open.struct Try.underlying35 (by kernel_rfl) (Open.field_more rfl (Open.string Try.underlying9 (by kernel_rfl)) (Open.field_last rfl (Open.slice Try.underlying33 (Open.struct Try.underlying37 (by kernel_rfl) (Open.field_more rfl (Open.string Try.underlying9 (by kernel_rfl)) (Open.field_last rfl (Open.string Try.underlying9 (by kernel_rfl)))) (fun x : Px.S37 => (x.f0, x.f1)) (fun y => ⟨y.1, y.2⟩) (fun _ => rfl)) (by kernel_rfl)))) (fun x : Px.S35 => (x.f0, x.f1)) (fun y => ⟨y.1, y.2⟩) (fun _ => rfl)) h0 hsz (j := 0) (t := 23) rfl rfl
  obtain ⟨a1, len1, cap1, rfl⟩ := okWide_slice Try.underlying23 (hval 1 23 v1 rfl rfl)
  have k1 := h1
  have lt1 : ∀ x ∈ p1, x.block < W.heap.size := by obtain ⟨m, hm⟩ := k1; exact DataW.trod_lt m _ _ _ hm
  obtain ⟨l1, rfl, hr1, hc1, wf1, y1⟩ := Open.slice_arg (d := Px.k35) Try.underlying23 (Open.struct Try.underlying35 (by kernel_rfl) (Open.field_more rfl (Open.string Try.underlying9 (by kernel_rfl)) (Open.field_last rfl (Open.slice Try.underlying33 (Open.struct Try.underlying37 (by kernel_rfl) (Open.field_more rfl (Open.string Try.underlying9 (by kernel_rfl)) (Open.field_last rfl (Open.string Try.underlying9 (by kernel_rfl)))) (fun x : Px.S37 => (x.f0, x.f1)) (fun y => ⟨y.1, y.2⟩) (fun _ => rfl)) (by kernel_rfl)))) (fun x : Px.S35 => (x.f0, x.f1)) (fun y => ⟨y.1, y.2⟩) (fun _ => rfl)) h1 hsz (j := 1) (t := 23) rfl rfl
  obtain ⟨a2, rfl, _⟩ := Open.okWide_array Try.underlying43 (hval 2 43 v2 rfl rfl)
  have k2 := h2
  have lt2 : ∀ x ∈ p2, x.block < W.heap.size := by obtain ⟨m, hm⟩ := k2; exact DataW.trod_lt m _ _ _ hm
  obtain ⟨x2, hx2, wf2⟩ := Open.agg_arg (d := (Kd.pair Kd.string Kd.string)) (Open.array2 Try.underlying43 (Open.string Try.underlying9 (by kernel_rfl)) (by kernel_rfl)) h2 hsz (j := 2) (t := 43) rfl rfl
  clear hA0 hval0 hsz0 hsz
  have hk := Pure.QuoteWrites l0 l1 x2 wf0 y0 wf1 y1 wf2
  refine (Px.gonglaw10_QuoteWrites.calls _ _ l0 _ _ l1 a2 x2 true W hr0 hc0 hr1 hc1 hx2 hk).mono fun e W' ⟨he, hd⟩ => ?_
  subst he
  have bel : Below W.heap.size W W' := hd
  exact ⟨_, rfl, _, _, _, [], _, [], hW', trodAll_mk1 (shut_bool Try.underlying4 _), (trodAll_cons_mk (Below.trod laidOut (by kernel_rfl) (of_decide_eq_true (by kernel_rfl)) k0 bel lt0) (trodAll_cons_mk (Below.trod laidOut (by kernel_rfl) (of_decide_eq_true (by kernel_rfl)) k1 bel lt1) (trodAll_cons_mk (Below.trod laidOut (by kernel_rfl) (of_decide_eq_true (by kernel_rfl)) k2 bel lt2) trodAll_mk0))), rfl, bel.frame _, fun h => by cases h⟩
theorem over : Rows.quoteWritesRow.holds Try.pinned (OpenSpec.ofChange Rows.quoteWritesSpec) :=
  OpenClaim.holds_of_wide 6 Try.f6 rfl rfl rfl rfl rfl rfl rfl ⟨rfl, rfl, rfl, rfl, rfl⟩ rfl rfl rfl rfl rfl (by kernel_rfl) Try.func6 (by kernel_rfl)
    (of_decide_eq_true (by kernel_rfl)) (by unfold Func.isWrapper; first | (rw [if_pos (by decide +kernel)]; kernel_rfl) | (rw [if_neg (by decide +kernel)]; exact ⟨rfl, rfl⟩))
    (fun os started H enc _ => lifted os started H enc)
theorem proved : Rows.QuoteWritesSaid := over
#print axioms proved
end Go.Proofs.Ytgopphglkjdcaaa.quoteWrites
namespace Go.Proofs.Ytgopphglkjdcaaa
/-- The row, under a short name, for the claim. -/
theorem quoteWrites_holds : Rows.QuoteWritesSaid := quoteWrites.proved
end Go.Proofs.Ytgopphglkjdcaaa
end
