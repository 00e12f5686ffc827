-- Laid by wip/hprint.py: the kit's print of the translation, turned in places, beside contracts that this session wrote by hand; Lean checks all of it.
import Derived.Test.YtgopphglkjdcaaaPx0
namespace Go.Proofs.Ytgopphglkjdcaaa.Px
open Go.RowKit Go.Proofs.YtgopphglkjdcaaaW.PrintWords Go.Proofs.YtgopphglkjdcaaaW.PrintLast Go.Proofs.YtgopphglkjdcaaaW.PrintMore
attribute [local go_sem] max2_int min2_int max_two min_two max_three min_three max_four min_four   -- for this text's walks alone
set_option linter.unusedVariables false
set_option linter.unusedSimpArgs false

/-! ### gonglaw10_small: function 16 -/
mutual
def gonglaw10_small.j0 : Nat → List (S35) → Bool → Option (Bool)
  | 0, _, _ => none
  | k + 1, x0, x17 => if x17 = true then (some false) else (gonglaw10_small.l0 k x0 0)
def gonglaw10_small.l0 : Nat → List (S35) → Int → Option (Bool)
  | 0, _, _ => none
  | k + 1, x0, x3 => if x3 < (x0.length : Int) then (gonglaw10_small.j2 k x0 x3 (decide (x3 < 40))) else (gonglaw10_small.j2 k x0 x3 false)
def gonglaw10_small.j2 : Nat → List (S35) → Int → Bool → Option (Bool)
  | 0, _, _, _ => none
  | k + 1, x0, x3, x25 => if x25 = true then (if 0 ≤ x3 then (if x3 < (x0.length : Int) then (if (((rd_T35 x0 x3).f1).length : Int) > 20 then (gonglaw10_small.j3 k x0 x3 true) else (gonglaw10_small.j3 k x0 x3 (decide ((((rd_T35 x0 x3).f0).size : Int) > 100)))) else (none)) else (none)) else (some true)
def gonglaw10_small.j3 : Nat → List (S35) → Int → Bool → Option (Bool)
  | 0, _, _, _ => none
  | k + 1, x0, x3, x43 => if x43 = true then (some false) else (gonglaw10_small.l1 k x0 x3 0)
def gonglaw10_small.l1 : Nat → List (S35) → Int → Int → Option (Bool)
  | 0, _, _, _ => none
  | k + 1, x0, x3, x4 => if 0 ≤ x3 then (if x3 < (x0.length : Int) then (if x4 < (((rd_T35 x0 x3).f1).length : Int) then (if 0 ≤ x4 then (if (((rd_T37 ((rd_T35 x0 x3).f1) x4).f1).size : Int) > 1000 then (some false) else (if (((rd_T37 ((rd_T35 x0 x3).f1) x4).f0).size : Int) > 100 then (some false) else (gonglaw10_small.l1 k x0 x3 (wrap64 (x4 + 1))))) else (none)) else (gonglaw10_small.l0 k x0 (wrap64 (x3 + 1)))) else (none)) else (none)
end
def gonglaw10_small.f (k : Nat) (l0 : List (S35)) : Option (Bool) := if (l0.length : Int) > 20 then (if (l0.length : Int) ≤ 4096 then (gonglaw10_small.j0 k l0 true) else (gonglaw10_small.j0 k l0 (decide ((l0.length : Int) > 8192)))) else (gonglaw10_small.j0 k l0 (decide ((l0.length : Int) > 8192)))
theorem gonglaw10_small.mono_l : ∀ k, (∀ y0 y1, LeO (gonglaw10_small.j0 k y0 y1) (gonglaw10_small.j0 (k + 1) y0 y1)) ∧ (∀ y0 y1, LeO (gonglaw10_small.l0 k y0 y1) (gonglaw10_small.l0 (k + 1) y0 y1)) ∧ (∀ y0 y1 y2, LeO (gonglaw10_small.j2 k y0 y1 y2) (gonglaw10_small.j2 (k + 1) y0 y1 y2)) ∧ (∀ y0 y1 y2, LeO (gonglaw10_small.j3 k y0 y1 y2) (gonglaw10_small.j3 (k + 1) y0 y1 y2)) ∧ (∀ y0 y1 y2, LeO (gonglaw10_small.l1 k y0 y1 y2) (gonglaw10_small.l1 (k + 1) y0 y1 y2))
  | 0 => ⟨fun _ _ r h => by simp [gonglaw10_small.j0] at h, fun _ _ r h => by simp [gonglaw10_small.l0] at h, fun _ _ _ r h => by simp [gonglaw10_small.j2] at h, fun _ _ _ r h => by simp [gonglaw10_small.j3] at h, fun _ _ _ r h => by simp [gonglaw10_small.l1] at h⟩
  | k + 1 => by
    obtain ⟨ih0, ih1, ih2, ih3, ih4⟩ := gonglaw10_small.mono_l k
    refine ⟨?_, ?_, ?_, ?_, ?_⟩
    · intro y0 y1
      unfold gonglaw10_small.j0
      repeat' first
      | (with_reducible exact ih0 _ _)
      | (with_reducible exact ih1 _ _)
      | (with_reducible exact ih2 _ _ _)
      | (with_reducible exact ih3 _ _ _)
      | (with_reducible exact ih4 _ _ _)
      | (with_reducible exact LeO.refl _)
      | (with_reducible exact LeO.none _)
      | (with_reducible refine LeO.ite ?_ ?_)
      | (with_reducible refine LeO.bind ?_ (fun _ => ?_))
      | exact ih0 _ _
      | exact ih1 _ _
      | exact ih2 _ _ _
      | exact ih3 _ _ _
      | exact ih4 _ _ _
      | exact LeO.none _
      | refine LeO.ite ?_ ?_
      | refine LeO.bind ?_ (fun _ => ?_)
    · intro y0 y1
      unfold gonglaw10_small.l0
      repeat' first
      | (with_reducible exact ih0 _ _)
      | (with_reducible exact ih1 _ _)
      | (with_reducible exact ih2 _ _ _)
      | (with_reducible exact ih3 _ _ _)
      | (with_reducible exact ih4 _ _ _)
      | (with_reducible exact LeO.refl _)
      | (with_reducible exact LeO.none _)
      | (with_reducible refine LeO.ite ?_ ?_)
      | (with_reducible refine LeO.bind ?_ (fun _ => ?_))
      | exact ih0 _ _
      | exact ih1 _ _
      | exact ih2 _ _ _
      | exact ih3 _ _ _
      | exact ih4 _ _ _
      | exact LeO.none _
      | refine LeO.ite ?_ ?_
      | refine LeO.bind ?_ (fun _ => ?_)
    · intro y0 y1 y2
      unfold gonglaw10_small.j2
      repeat' first
      | (with_reducible exact ih0 _ _)
      | (with_reducible exact ih1 _ _)
      | (with_reducible exact ih2 _ _ _)
      | (with_reducible exact ih3 _ _ _)
      | (with_reducible exact ih4 _ _ _)
      | (with_reducible exact LeO.refl _)
      | (with_reducible exact LeO.none _)
      | (with_reducible refine LeO.ite ?_ ?_)
      | (with_reducible refine LeO.bind ?_ (fun _ => ?_))
      | exact ih0 _ _
      | exact ih1 _ _
      | exact ih2 _ _ _
      | exact ih3 _ _ _
      | exact ih4 _ _ _
      | exact LeO.none _
      | refine LeO.ite ?_ ?_
      | refine LeO.bind ?_ (fun _ => ?_)
    · intro y0 y1 y2
      unfold gonglaw10_small.j3
      repeat' first
      | (with_reducible exact ih0 _ _)
      | (with_reducible exact ih1 _ _)
      | (with_reducible exact ih2 _ _ _)
      | (with_reducible exact ih3 _ _ _)
      | (with_reducible exact ih4 _ _ _)
      | (with_reducible exact LeO.refl _)
      | (with_reducible exact LeO.none _)
      | (with_reducible refine LeO.ite ?_ ?_)
      | (with_reducible refine LeO.bind ?_ (fun _ => ?_))
      | exact ih0 _ _
      | exact ih1 _ _
      | exact ih2 _ _ _
      | exact ih3 _ _ _
      | exact ih4 _ _ _
      | exact LeO.none _
      | refine LeO.ite ?_ ?_
      | refine LeO.bind ?_ (fun _ => ?_)
    · intro y0 y1 y2
      unfold gonglaw10_small.l1
      repeat' first
      | (with_reducible exact ih0 _ _)
      | (with_reducible exact ih1 _ _)
      | (with_reducible exact ih2 _ _ _)
      | (with_reducible exact ih3 _ _ _)
      | (with_reducible exact ih4 _ _ _)
      | (with_reducible exact LeO.refl _)
      | (with_reducible exact LeO.none _)
      | (with_reducible refine LeO.ite ?_ ?_)
      | (with_reducible refine LeO.bind ?_ (fun _ => ?_))
      | exact ih0 _ _
      | exact ih1 _ _
      | exact ih2 _ _ _
      | exact ih3 _ _ _
      | exact ih4 _ _ _
      | exact LeO.none _
      | refine LeO.ite ?_ ?_
      | refine LeO.bind ?_ (fun _ => ?_)
theorem gonglaw10_small.mono : ∀ a0 k, LeO (gonglaw10_small.f k a0) (gonglaw10_small.f (k + 1) a0) := by
  intro a0 k
  obtain ⟨ih0, ih1, ih2, ih3, ih4⟩ := gonglaw10_small.mono_l k
  unfold gonglaw10_small.f
  repeat' first
      | (with_reducible exact ih0 _ _)
      | (with_reducible exact ih1 _ _)
      | (with_reducible exact ih2 _ _ _)
      | (with_reducible exact ih3 _ _ _)
      | (with_reducible exact ih4 _ _ _)
      | (with_reducible exact LeO.refl _)
      | (with_reducible exact LeO.none _)
      | (with_reducible refine LeO.ite ?_ ?_)
      | (with_reducible refine LeO.bind ?_ (fun _ => ?_))
      | exact ih0 _ _
      | exact ih1 _ _
      | exact ih2 _ _ _
      | exact ih3 _ _ _
      | exact ih4 _ _ _
      | exact LeO.none _
      | refine LeO.ite ?_ ?_
      | refine LeO.bind ?_ (fun _ => ?_)
set_option maxHeartbeats 8000000 in
set_option maxRecDepth 100000 in
theorem gonglaw10_small.calls (k : Nat) (A0 : Option Addr) (c0 : Nat) (l0 : List (S35)) (r : Bool) (w : World) (hr0 : Kd.C k35 w A0 l0.length l0) (hc0 : l0.length ≤ c0) (h : gonglaw10_small.f k l0 = some r) :
    Calls Try.prog 16 #[.slice A0 l0.length c0] w fun e w' => e = .returned (.bool r) ∧ Drawn0 w w' := by
  have HR0 := Aside0.mk hr0
  have HC0 := Aside0.mk hc0
  clear hr0 hc0
  have H : (if (l0.length : Int) > 20 then (if (l0.length : Int) ≤ 4096 then (gonglaw10_small.j0 k l0 true) else (gonglaw10_small.j0 k l0 (decide ((l0.length : Int) > 8192)))) else (gonglaw10_small.j0 k l0 (decide ((l0.length : Int) > 8192)))) = some r := h
  clear h
  have HC2 := Aside0.mk H
  clear H
  go_enter Try.func16, Try.ntmps16
  go_upto_region 1 with (fail)
  go_cut [17] (fun v17 wc => ∃ (kq : Nat) (x17_1 : Bool), v17 = .bool x17_1 ∧ Aside0 (gonglaw10_small.j0 kq l0 x17_1 = some r) ∧ Aside0 (kq ≤ k) ∧ Drawn0 w wc)
  case first =>
    have H := HC2.out
    clear HC2
    by_cases c3 : (l0.length : Int) > 20
    · rw [if_pos c3] at H
      have c3b0 : decide (20 < (l0.length : Int)) = true := decide_eq_true c3
      have c3b1 : decide (20 < l0.length) = true := decide_eq_true (by omega)
      clear c3
      (first | rw [c3b0] | (simp only [i64_w, i32_w]; rw [c3b0]) | skip)
      by_cases c4 : (l0.length : Int) ≤ 4096
      · rw [if_pos c4] at H
        have c4b0 : decide ((l0.length : Int) ≤ 4096) = true := decide_eq_true c4
        have c4b1 : decide (l0.length ≤ 4096) = true := decide_eq_true (by omega)
        clear c4
        have H' := Aside0.mk H
        clear H
        go_wp2
        go_meet
        case rel => exact ⟨_, (true), (by first | rfl | (simp; done) | (simp [*]; done)), H', ⟨by first | omega | exact Nat.le_refl _⟩, by repeat (first | exact Drawn0.refl _ | apply Drawn0.step)⟩
      · rw [if_neg c4] at H
        have c4b0 : decide ((l0.length : Int) ≤ 4096) = false := decide_eq_false c4
        have c4b1 : decide (l0.length ≤ 4096) = false := decide_eq_false (by omega)
        clear c4
        have H' := Aside0.mk H
        clear H
        go_wp2
        go_meet
        case rel => exact ⟨_, (decide ((l0.length : Int) > 8192)), (by first | rfl | (simp; done) | (simp [*]; done)), H', ⟨by first | omega | exact Nat.le_refl _⟩, by repeat (first | exact Drawn0.refl _ | apply Drawn0.step)⟩
    · rw [if_neg c3] at H
      have c3b0 : decide (20 < (l0.length : Int)) = false := decide_eq_false c3
      have c3b1 : decide (20 < l0.length) = false := decide_eq_false (by omega)
      clear c3
      (first | rw [c3b0] | (simp only [i64_w, i32_w]; rw [c3b0]) | skip)
      have H' := Aside0.mk H
      clear H
      go_wp2
      go_meet
      case rel => exact ⟨_, (decide ((l0.length : Int) > 8192)), (by first | rfl | (simp; done) | (simp [*]; done)), H', ⟨by first | omega | exact Nat.le_refl _⟩, by repeat (first | exact Drawn0.refl _ | apply Drawn0.step)⟩
  case rest =>
    clear HC2
    try clear c1
    try clear p2
    try clear c3
    try clear c3b0
    try clear c3b1
    try clear c4
    try clear c4b0
    try clear c4b1
    obtain ⟨kq, x17_1, rfl, HA, HJ1, ⟨mc1, rfl⟩⟩ := hcut
    cases kq with
    | zero => exact absurd HA.out (by simp [gonglaw10_small.j0])
    | succ kj1 =>
      have H := HA.out
      clear HA
      simp only [gonglaw10_small.j0] at H
      by_cases c5 : x17_1 = true
      · subst c5
        have H1 : (some false) = some r := by rw [if_pos rfl] at H; exact H
        clear H
        have H := H1
        clear H1
        obtain rfl := Option.some.inj H
        go_wp2
        go_ret
        exact ⟨by first | rfl | (simp; done) | (simp [*]; done) | (simp [IntKind.wrap_u8, IntKind.wrap_i64, wrap64]; done) | (simp only [IntKind.wrap_u8]; rfl), by repeat (first | exact Drawn0.refl _ | apply Drawn0.step)⟩
      · replace c5 := Bool.eq_false_iff.mpr c5
        subst c5
        have H1 : (gonglaw10_small.l0 kj1 l0 0) = some r := by rw [if_neg (show ¬ (false = true) by decide)] at H; exact H
        clear H
        have H := H1
        clear H1
        have H' := Aside0.mk H
        clear H
        go_wp2
        go_loopg [3] kj1 (fun kq v3 w' => ∃ (x3_2 : Int), v3 = .int .i64 x3_2 ∧ Aside0 (gonglaw10_small.l0 kq l0 x3_2 = some r) ∧ Aside0 (kq ≤ kj1) ∧ Drawn0 w w')
        case atStart => exact ⟨(0), (by first | rfl | (simp; done) | (simp [*]; done)), H', ⟨Nat.le_refl _⟩, by repeat (first | exact Drawn0.refl _ | apply Drawn0.step)⟩
        case round =>
          clear H'
          try clear c1
          try clear p2
          try clear c3
          try clear c3b0
          try clear c3b1
          try clear c4
          try clear c4b0
          try clear c4b1
          try clear c5
          try clear p2
          obtain ⟨x3_2, rfl, HA, HK2, ⟨m2, rfl⟩⟩ := hrel
          cases gk with
          | zero => exact absurd HA.out (by simp [gonglaw10_small.l0])
          | succ k2 =>
            have H := HA.out
            clear HA
            simp only [gonglaw10_small.l0] at H
            have HC6 := Aside0.mk H
            clear H
            go_upto_region 4 with (fail)
            go_cut [25] (fun v25 wc => ∃ (kq : Nat) (x25_5 : Bool), v25 = .bool x25_5 ∧ Aside0 (gonglaw10_small.j2 kq l0 x3_2 x25_5 = some r) ∧ Aside0 (kq ≤ k2) ∧ Drawn0 w wc)
            case first =>
              have H := HC6.out
              clear HC6
              by_cases c7 : x3_2 < (l0.length : Int)
              · rw [if_pos c7] at H
                have c7b0 : decide (x3_2 < (l0.length : Int)) = true := decide_eq_true c7
                clear c7
                (first | rw [c7b0] | (simp only [i64_w, i32_w]; rw [c7b0]) | skip)
                have H' := Aside0.mk H
                clear H
                go_wp2
                go_meet
                case rel => exact ⟨_, (decide (x3_2 < 40)), (by first | rfl | (simp; done) | (simp [*]; done)), H', ⟨by have := HJ1.out; have := HK2.out; first | omega | exact Nat.le_refl _⟩, by repeat (first | exact Drawn0.refl _ | apply Drawn0.step)⟩
              · rw [if_neg c7] at H
                have c7b0 : decide (x3_2 < (l0.length : Int)) = false := decide_eq_false c7
                clear c7
                (first | rw [c7b0] | (simp only [i64_w, i32_w]; rw [c7b0]) | skip)
                have H' := Aside0.mk H
                clear H
                go_wp2
                go_meet
                case rel => exact ⟨_, (false), (by first | rfl | (simp; done) | (simp [*]; done)), H', ⟨by have := HJ1.out; have := HK2.out; first | omega | exact Nat.le_refl _⟩, by repeat (first | exact Drawn0.refl _ | apply Drawn0.step)⟩
            case rest =>
              clear HC6
              try clear c1
              try clear p2
              try clear c3
              try clear c3b0
              try clear c3b1
              try clear c4
              try clear c4b0
              try clear c4b1
              try clear c5
              try clear c7
              try clear c7b0
              try clear p2
              obtain ⟨kq, x25_5, rfl, HA, HJ5, ⟨mc5, rfl⟩⟩ := hcut
              cases kq with
              | zero => exact absurd HA.out (by simp [gonglaw10_small.j2])
              | succ kj5 =>
                have H := HA.out
                clear HA
                simp only [gonglaw10_small.j2] at H
                by_cases c8 : x25_5 = true
                · subst c8
                  have H1 : (if 0 ≤ x3_2 then (if x3_2 < (l0.length : Int) then (if (((rd_T35 l0 x3_2).f1).length : Int) > 20 then (gonglaw10_small.j3 kj5 l0 x3_2 true) else (gonglaw10_small.j3 kj5 l0 x3_2 (decide ((((rd_T35 l0 x3_2).f0).size : Int) > 100)))) else (none)) else (none)) = some r := by rw [if_pos rfl] at H; exact H
                  clear H
                  have H := H1
                  clear H1
                  have HC9 := Aside0.mk H
                  clear H
                  go_upto_region 6 with (fail)
                  go_cut [43] (fun v43 wc => ∃ (kq : Nat) (x43_8 : Bool), v43 = .bool x43_8 ∧ Aside0 (gonglaw10_small.j3 kq l0 x3_2 x43_8 = some r) ∧ Aside0 (kq ≤ kj5) ∧ Drawn0 w wc)
                  case first =>
                    have H := HC9.out
                    clear HC9
                    by_cases c10 : 0 ≤ x3_2
                    · rw [if_pos c10] at H
                      have c10b0 : decide (0 ≤ x3_2) = true := decide_eq_true c10
                      clear c10
                      (first | rw [c10b0] | (simp only [i64_w, i32_w]; rw [c10b0]) | skip)
                      by_cases c11 : x3_2 < (l0.length : Int)
                      · rw [if_pos c11] at H
                        have c11b0 : decide (x3_2 < (l0.length : Int)) = true := decide_eq_true c11
                        clear c11
                        by_cases c12 : (((rd_T35 l0 x3_2).f1).length : Int) > 20
                        · rw [if_pos c12] at H
                          have c12b0 : decide (20 < (((rd_T35 l0 x3_2).f1).length : Int)) = true := decide_eq_true c12
                          have c12b1 : decide (20 < ((rd_T35 l0 x3_2).f1).length) = true := decide_eq_true (by omega)
                          clear c12
                          have H' := Aside0.mk H
                          clear H
                          have p248 : 0 ≤ (x3_2 : Int) := of_decide_eq_true (by first | (with_reducible assumption) | assumption)
                          have q248 : x3_2 < (l0.length : Int) := of_decide_eq_true (by first | (with_reducible assumption) | assumption)
                          obtain ⟨ad248, A248_1, c248_1, e248, hx248_0, hx248_1, hl248_1, hi248_1⟩ := at_T35 HR0.out x3_2 p248 q248
                          cases e248
                          have HR248_1 := Aside0.mk hi248_1
                          have HC248_1 := Aside0.mk hl248_1
                          clear hi248_1 hl248_1
                          replace p248 := eq_true p248
                          replace q248 := eq_true q248
                          go_wp2
                          go_meet
                          case rel => exact ⟨_, (true), (by first | rfl | (simp; done) | (simp [*]; done)), H', ⟨by have := HJ1.out; have := HK2.out; have := HJ5.out; first | omega | exact Nat.le_refl _⟩, by repeat (first | exact Drawn0.refl _ | apply Drawn0.step)⟩
                        · rw [if_neg c12] at H
                          have c12b0 : decide (20 < (((rd_T35 l0 x3_2).f1).length : Int)) = false := decide_eq_false c12
                          have c12b1 : decide (20 < ((rd_T35 l0 x3_2).f1).length) = false := decide_eq_false (by omega)
                          clear c12
                          have H' := Aside0.mk H
                          clear H
                          have p248 : 0 ≤ (x3_2 : Int) := of_decide_eq_true (by first | (with_reducible assumption) | assumption)
                          have q248 : x3_2 < (l0.length : Int) := of_decide_eq_true (by first | (with_reducible assumption) | assumption)
                          obtain ⟨ad248, A248_1, c248_1, e248, hx248_0, hx248_1, hl248_1, hi248_1⟩ := at_T35 HR0.out x3_2 p248 q248
                          cases e248
                          have HR248_1 := Aside0.mk hi248_1
                          have HC248_1 := Aside0.mk hl248_1
                          clear hi248_1 hl248_1
                          replace p248 := eq_true p248
                          replace q248 := eq_true q248
                          have p249 : 0 ≤ (x3_2 : Int) := of_decide_eq_true (by first | (with_reducible assumption) | assumption)
                          have q249 : x3_2 < (l0.length : Int) := of_decide_eq_true (by first | (with_reducible assumption) | assumption)
                          obtain ⟨ad249, A249_1, c249_1, e249, hx249_0, hx249_1, hl249_1, hi249_1⟩ := at_T35 HR0.out x3_2 p249 q249
                          obtain rfl : ad248 = ad249 := (by injection e249)
                          have HR249_1 := Aside0.mk hi249_1
                          have HC249_1 := Aside0.mk hl249_1
                          clear hi249_1 hl249_1
                          replace p249 := eq_true p249
                          replace q249 := eq_true q249
                          have ea_ := Option.some.inj (hx248_1.symm.trans hx249_1)
                          injection ea_ with ea_ en_ ec_
                          subst ea_
                          subst ec_
                          clear en_
                          go_wp2
                          go_meet
                          case rel => exact ⟨_, (decide ((((rd_T35 l0 x3_2).f0).size : Int) > 100)), (by first | rfl | (simp; done) | (simp [*]; done)), H', ⟨by have := HJ1.out; have := HK2.out; have := HJ5.out; first | omega | exact Nat.le_refl _⟩, by repeat (first | exact Drawn0.refl _ | apply Drawn0.step)⟩
                      · rw [if_neg c11] at H
                        exact absurd H (by simp)
                    · rw [if_neg c10] at H
                      exact absurd H (by simp)
                  case rest =>
                    clear HC9
                    try clear c1
                    try clear c2
                    try clear p2
                    try clear q2
                    try clear hx2
                    try clear c3
                    try clear c3b0
                    try clear c3b1
                    try clear c4
                    try clear c4b0
                    try clear c4b1
                    try clear c5
                    try clear c7
                    try clear c7b0
                    try clear c8
                    try clear c10
                    try clear c10b0
                    try clear c11
                    try clear c11b0
                    try clear c12
                    try clear c12b0
                    try clear c12b1
                    try clear hx248_0
                    try clear hx248_1
                    try clear hx249_0
                    try clear hx249_1
                    try clear p2
                    try clear p248
                    try clear p249
                    try clear q248
                    try clear q249
                    obtain ⟨kq, x43_8, rfl, HA, HJ8, ⟨mc8, rfl⟩⟩ := hcut
                    cases kq with
                    | zero => exact absurd HA.out (by simp [gonglaw10_small.j3])
                    | succ kj8 =>
                      have H := HA.out
                      clear HA
                      simp only [gonglaw10_small.j3] at H
                      by_cases c13 : x43_8 = true
                      · subst c13
                        have H1 : (some false) = some r := by rw [if_pos rfl] at H; exact H
                        clear H
                        have H := H1
                        clear H1
                        obtain rfl := Option.some.inj H
                        go_wp2
                        go_ret
                        exact ⟨by first | rfl | (simp; done) | (simp [*]; done) | (simp [IntKind.wrap_u8, IntKind.wrap_i64, wrap64]; done) | (simp only [IntKind.wrap_u8]; rfl), by repeat (first | exact Drawn0.refl _ | apply Drawn0.step)⟩
                      · replace c13 := Bool.eq_false_iff.mpr c13
                        subst c13
                        have H1 : (gonglaw10_small.l1 kj8 l0 x3_2 0) = some r := by rw [if_neg (show ¬ (false = true) by decide)] at H; exact H
                        clear H
                        have H := H1
                        clear H1
                        have H' := Aside0.mk H
                        clear H
                        go_wp2
                        go_loopg [4] kj8 (fun kq v4 w' => ∃ (x4_5 : Int), v4 = .int .i64 x4_5 ∧ Aside0 (gonglaw10_small.l1 kq l0 x3_2 x4_5 = some r) ∧ Aside0 (kq ≤ kj8) ∧ Drawn0 w w')
                        case atStart => exact ⟨(0), (by first | rfl | (simp; done) | (simp [*]; done)), H', ⟨Nat.le_refl _⟩, by repeat (first | exact Drawn0.refl _ | apply Drawn0.step)⟩
                        case round =>
                          clear H'
                          try clear c1
                          try clear c2
                          try clear p2
                          try clear q2
                          try clear hx2
                          try clear c3
                          try clear c3b0
                          try clear c3b1
                          try clear c4
                          try clear c4b0
                          try clear c4b1
                          try clear c5
                          try clear c7
                          try clear c7b0
                          try clear c8
                          try clear c10
                          try clear c10b0
                          try clear c11
                          try clear c11b0
                          try clear c12
                          try clear c12b0
                          try clear c12b1
                          try clear c13
                          try clear hx248_0
                          try clear hx248_1
                          try clear hx249_0
                          try clear hx249_1
                          try clear p2
                          try clear p248
                          try clear p249
                          try clear q2
                          try clear q248
                          try clear q249
                          obtain ⟨x4_5, rfl, HA, HK5, ⟨m5, rfl⟩⟩ := hrel
                          cases gk with
                          | zero => exact absurd HA.out (by simp [gonglaw10_small.l1])
                          | succ k5 =>
                            have H := HA.out
                            clear HA
                            simp only [gonglaw10_small.l1] at H
                            by_cases c14 : 0 ≤ x3_2
                            · rw [if_pos c14] at H
                              have c14b0 : decide (0 ≤ x3_2) = true := decide_eq_true c14
                              clear c14
                              by_cases c15 : x3_2 < (l0.length : Int)
                              · rw [if_pos c15] at H
                                have c15b0 : decide (x3_2 < (l0.length : Int)) = true := decide_eq_true c15
                                clear c15
                                by_cases c16 : x4_5 < (((rd_T35 l0 x3_2).f1).length : Int)
                                · rw [if_pos c16] at H
                                  have c16b0 : decide (x4_5 < (((rd_T35 l0 x3_2).f1).length : Int)) = true := decide_eq_true c16
                                  clear c16
                                  by_cases c17 : 0 ≤ x4_5
                                  · rw [if_pos c17] at H
                                    have c17b0 : decide (0 ≤ x4_5) = true := decide_eq_true c17
                                    clear c17
                                    by_cases c18 : (((rd_T37 ((rd_T35 l0 x3_2).f1) x4_5).f1).size : Int) > 1000
                                    · rw [if_pos c18] at H
                                      have c18b0 : decide (1000 < (((rd_T37 ((rd_T35 l0 x3_2).f1) x4_5).f1).size : Int)) = true := decide_eq_true c18
                                      have c18b1 : decide (1000 < ((rd_T37 ((rd_T35 l0 x3_2).f1) x4_5).f1).size) = true := decide_eq_true (by omega)
                                      clear c18
                                      obtain rfl := Option.some.inj H
                                      have p250 : 0 ≤ (x3_2 : Int) := of_decide_eq_true (by first | (with_reducible assumption) | assumption)
                                      have q250 : x3_2 < (l0.length : Int) := of_decide_eq_true (by first | (with_reducible assumption) | assumption)
                                      obtain ⟨ad250, A250_1, c250_1, e250, hx250_0, hx250_1, hl250_1, hi250_1⟩ := at_T35 HR0.out x3_2 p250 q250
                                      cases e250
                                      have HR250_1 := Aside0.mk hi250_1
                                      have HC250_1 := Aside0.mk hl250_1
                                      clear hi250_1 hl250_1
                                      replace p250 := eq_true p250
                                      replace q250 := eq_true q250
                                      have p251 : 0 ≤ (x3_2 : Int) := of_decide_eq_true (by first | (with_reducible assumption) | assumption)
                                      have q251 : x3_2 < (l0.length : Int) := of_decide_eq_true (by first | (with_reducible assumption) | assumption)
                                      obtain ⟨ad251, A251_1, c251_1, e251, hx251_0, hx251_1, hl251_1, hi251_1⟩ := at_T35 HR0.out x3_2 p251 q251
                                      obtain rfl : ad250 = ad251 := (by injection e251)
                                      have HR251_1 := Aside0.mk hi251_1
                                      have HC251_1 := Aside0.mk hl251_1
                                      clear hi251_1 hl251_1
                                      replace p251 := eq_true p251
                                      replace q251 := eq_true q251
                                      have ea_ := Option.some.inj (hx250_1.symm.trans hx251_1)
                                      injection ea_ with ea_ en_ ec_
                                      subst ea_
                                      subst ec_
                                      clear en_
                                      have p252 : 0 ≤ (x4_5 : Int) := of_decide_eq_true (by first | (with_reducible assumption) | assumption)
                                      have q252 : x4_5 < (((rd_T35 l0 x3_2).f1).length : Int) := of_decide_eq_true (by first | (with_reducible assumption) | assumption)
                                      obtain ⟨ad252, e252, hx252_0, hx252_1⟩ := at_T37 HR251_1.out x4_5 p252 q252
                                      cases e252
                                      replace p252 := eq_true p252
                                      replace q252 := eq_true q252
                                      go_wp2
                                      go_ret
                                      exact ⟨by first | rfl | (simp; done) | (simp [*]; done) | (simp [IntKind.wrap_u8, IntKind.wrap_i64, wrap64]; done) | (simp only [IntKind.wrap_u8]; rfl), by repeat (first | exact Drawn0.refl _ | apply Drawn0.step)⟩
                                    · rw [if_neg c18] at H
                                      have c18b0 : decide (1000 < (((rd_T37 ((rd_T35 l0 x3_2).f1) x4_5).f1).size : Int)) = false := decide_eq_false c18
                                      have c18b1 : decide (1000 < ((rd_T37 ((rd_T35 l0 x3_2).f1) x4_5).f1).size) = false := decide_eq_false (by omega)
                                      clear c18
                                      by_cases c19 : (((rd_T37 ((rd_T35 l0 x3_2).f1) x4_5).f0).size : Int) > 100
                                      · rw [if_pos c19] at H
                                        have c19b0 : decide (100 < (((rd_T37 ((rd_T35 l0 x3_2).f1) x4_5).f0).size : Int)) = true := decide_eq_true c19
                                        have c19b1 : decide (100 < ((rd_T37 ((rd_T35 l0 x3_2).f1) x4_5).f0).size) = true := decide_eq_true (by omega)
                                        clear c19
                                        obtain rfl := Option.some.inj H
                                        have p250 : 0 ≤ (x3_2 : Int) := of_decide_eq_true (by first | (with_reducible assumption) | assumption)
                                        have q250 : x3_2 < (l0.length : Int) := of_decide_eq_true (by first | (with_reducible assumption) | assumption)
                                        obtain ⟨ad250, A250_1, c250_1, e250, hx250_0, hx250_1, hl250_1, hi250_1⟩ := at_T35 HR0.out x3_2 p250 q250
                                        cases e250
                                        have HR250_1 := Aside0.mk hi250_1
                                        have HC250_1 := Aside0.mk hl250_1
                                        clear hi250_1 hl250_1
                                        replace p250 := eq_true p250
                                        replace q250 := eq_true q250
                                        have p251 : 0 ≤ (x3_2 : Int) := of_decide_eq_true (by first | (with_reducible assumption) | assumption)
                                        have q251 : x3_2 < (l0.length : Int) := of_decide_eq_true (by first | (with_reducible assumption) | assumption)
                                        obtain ⟨ad251, A251_1, c251_1, e251, hx251_0, hx251_1, hl251_1, hi251_1⟩ := at_T35 HR0.out x3_2 p251 q251
                                        obtain rfl : ad250 = ad251 := (by injection e251)
                                        have HR251_1 := Aside0.mk hi251_1
                                        have HC251_1 := Aside0.mk hl251_1
                                        clear hi251_1 hl251_1
                                        replace p251 := eq_true p251
                                        replace q251 := eq_true q251
                                        have ea_ := Option.some.inj (hx250_1.symm.trans hx251_1)
                                        injection ea_ with ea_ en_ ec_
                                        subst ea_
                                        subst ec_
                                        clear en_
                                        have p252 : 0 ≤ (x4_5 : Int) := of_decide_eq_true (by first | (with_reducible assumption) | assumption)
                                        have q252 : x4_5 < (((rd_T35 l0 x3_2).f1).length : Int) := of_decide_eq_true (by first | (with_reducible assumption) | assumption)
                                        obtain ⟨ad252, e252, hx252_0, hx252_1⟩ := at_T37 HR251_1.out x4_5 p252 q252
                                        cases e252
                                        replace p252 := eq_true p252
                                        replace q252 := eq_true q252
                                        have p253 : 0 ≤ (x3_2 : Int) := of_decide_eq_true (by first | (with_reducible assumption) | assumption)
                                        have q253 : x3_2 < (l0.length : Int) := of_decide_eq_true (by first | (with_reducible assumption) | assumption)
                                        obtain ⟨ad253, A253_1, c253_1, e253, hx253_0, hx253_1, hl253_1, hi253_1⟩ := at_T35 HR0.out x3_2 p253 q253
                                        obtain rfl : ad250 = ad253 := (by injection e253)
                                        have HR253_1 := Aside0.mk hi253_1
                                        have HC253_1 := Aside0.mk hl253_1
                                        clear hi253_1 hl253_1
                                        replace p253 := eq_true p253
                                        replace q253 := eq_true q253
                                        have ea_ := Option.some.inj (hx250_1.symm.trans hx253_1)
                                        injection ea_ with ea_ en_ ec_
                                        subst ea_
                                        subst ec_
                                        clear en_
                                        have p254 : 0 ≤ (x4_5 : Int) := of_decide_eq_true (by first | (with_reducible assumption) | assumption)
                                        have q254 : x4_5 < (((rd_T35 l0 x3_2).f1).length : Int) := of_decide_eq_true (by first | (with_reducible assumption) | assumption)
                                        obtain ⟨ad254, e254, hx254_0, hx254_1⟩ := at_T37 HR253_1.out x4_5 p254 q254
                                        cases e254
                                        replace p254 := eq_true p254
                                        replace q254 := eq_true q254
                                        go_wp2
                                        go_ret
                                        exact ⟨by first | rfl | (simp; done) | (simp [*]; done) | (simp [IntKind.wrap_u8, IntKind.wrap_i64, wrap64]; done) | (simp only [IntKind.wrap_u8]; rfl), by repeat (first | exact Drawn0.refl _ | apply Drawn0.step)⟩
                                      · rw [if_neg c19] at H
                                        have c19b0 : decide (100 < (((rd_T37 ((rd_T35 l0 x3_2).f1) x4_5).f0).size : Int)) = false := decide_eq_false c19
                                        have c19b1 : decide (100 < ((rd_T37 ((rd_T35 l0 x3_2).f1) x4_5).f0).size) = false := decide_eq_false (by omega)
                                        clear c19
                                        have H' := Aside0.mk H
                                        clear H
                                        have p250 : 0 ≤ (x3_2 : Int) := of_decide_eq_true (by first | (with_reducible assumption) | assumption)
                                        have q250 : x3_2 < (l0.length : Int) := of_decide_eq_true (by first | (with_reducible assumption) | assumption)
                                        obtain ⟨ad250, A250_1, c250_1, e250, hx250_0, hx250_1, hl250_1, hi250_1⟩ := at_T35 HR0.out x3_2 p250 q250
                                        cases e250
                                        have HR250_1 := Aside0.mk hi250_1
                                        have HC250_1 := Aside0.mk hl250_1
                                        clear hi250_1 hl250_1
                                        replace p250 := eq_true p250
                                        replace q250 := eq_true q250
                                        have p251 : 0 ≤ (x3_2 : Int) := of_decide_eq_true (by first | (with_reducible assumption) | assumption)
                                        have q251 : x3_2 < (l0.length : Int) := of_decide_eq_true (by first | (with_reducible assumption) | assumption)
                                        obtain ⟨ad251, A251_1, c251_1, e251, hx251_0, hx251_1, hl251_1, hi251_1⟩ := at_T35 HR0.out x3_2 p251 q251
                                        obtain rfl : ad250 = ad251 := (by injection e251)
                                        have HR251_1 := Aside0.mk hi251_1
                                        have HC251_1 := Aside0.mk hl251_1
                                        clear hi251_1 hl251_1
                                        replace p251 := eq_true p251
                                        replace q251 := eq_true q251
                                        have ea_ := Option.some.inj (hx250_1.symm.trans hx251_1)
                                        injection ea_ with ea_ en_ ec_
                                        subst ea_
                                        subst ec_
                                        clear en_
                                        have p252 : 0 ≤ (x4_5 : Int) := of_decide_eq_true (by first | (with_reducible assumption) | assumption)
                                        have q252 : x4_5 < (((rd_T35 l0 x3_2).f1).length : Int) := of_decide_eq_true (by first | (with_reducible assumption) | assumption)
                                        obtain ⟨ad252, e252, hx252_0, hx252_1⟩ := at_T37 HR251_1.out x4_5 p252 q252
                                        cases e252
                                        replace p252 := eq_true p252
                                        replace q252 := eq_true q252
                                        have p253 : 0 ≤ (x3_2 : Int) := of_decide_eq_true (by first | (with_reducible assumption) | assumption)
                                        have q253 : x3_2 < (l0.length : Int) := of_decide_eq_true (by first | (with_reducible assumption) | assumption)
                                        obtain ⟨ad253, A253_1, c253_1, e253, hx253_0, hx253_1, hl253_1, hi253_1⟩ := at_T35 HR0.out x3_2 p253 q253
                                        obtain rfl : ad250 = ad253 := (by injection e253)
                                        have HR253_1 := Aside0.mk hi253_1
                                        have HC253_1 := Aside0.mk hl253_1
                                        clear hi253_1 hl253_1
                                        replace p253 := eq_true p253
                                        replace q253 := eq_true q253
                                        have ea_ := Option.some.inj (hx250_1.symm.trans hx253_1)
                                        injection ea_ with ea_ en_ ec_
                                        subst ea_
                                        subst ec_
                                        clear en_
                                        have p254 : 0 ≤ (x4_5 : Int) := of_decide_eq_true (by first | (with_reducible assumption) | assumption)
                                        have q254 : x4_5 < (((rd_T35 l0 x3_2).f1).length : Int) := of_decide_eq_true (by first | (with_reducible assumption) | assumption)
                                        obtain ⟨ad254, e254, hx254_0, hx254_1⟩ := at_T37 HR253_1.out x4_5 p254 q254
                                        cases e254
                                        replace p254 := eq_true p254
                                        replace q254 := eq_true q254
                                        go_wp2
                                        go_roundg k5
                                        case measure => have := HJ1.out; have := HK2.out; have := HJ5.out; have := HJ8.out; have := HK5.out; omega
                                        case rel => exact ⟨(wrap64 (x4_5 + 1)), (by first | rfl | (simp; done) | (simp [*]; done)), H', ⟨by have := HJ1.out; have := HK2.out; have := HJ5.out; have := HJ8.out; have := HK5.out; omega⟩, by repeat (first | exact Drawn0.refl _ | apply Drawn0.step)⟩
                                  · rw [if_neg c17] at H
                                    exact absurd H (by simp)
                                · rw [if_neg c16] at H
                                  have c16b0 : decide (x4_5 < (((rd_T35 l0 x3_2).f1).length : Int)) = false := decide_eq_false c16
                                  clear c16
                                  have H' := Aside0.mk H
                                  clear H
                                  have p250 : 0 ≤ (x3_2 : Int) := of_decide_eq_true (by first | (with_reducible assumption) | assumption)
                                  have q250 : x3_2 < (l0.length : Int) := of_decide_eq_true (by first | (with_reducible assumption) | assumption)
                                  obtain ⟨ad250, A250_1, c250_1, e250, hx250_0, hx250_1, hl250_1, hi250_1⟩ := at_T35 HR0.out x3_2 p250 q250
                                  cases e250
                                  have HR250_1 := Aside0.mk hi250_1
                                  have HC250_1 := Aside0.mk hl250_1
                                  clear hi250_1 hl250_1
                                  replace p250 := eq_true p250
                                  replace q250 := eq_true q250
                                  go_wp2
                                  go_roundg k5
                                  case measure => have := HJ1.out; have := HK2.out; have := HJ5.out; have := HJ8.out; have := HK5.out; omega
                                  case rel => exact ⟨(wrap64 (x3_2 + 1)), (by first | rfl | (simp; done) | (simp [*]; done)), H', ⟨by have := HJ1.out; have := HK2.out; have := HJ5.out; have := HJ8.out; have := HK5.out; omega⟩, by repeat (first | exact Drawn0.refl _ | apply Drawn0.step)⟩
                              · rw [if_neg c15] at H
                                exact absurd H (by simp)
                            · rw [if_neg c14] at H
                              exact absurd H (by simp)
                · replace c8 := Bool.eq_false_iff.mpr c8
                  subst c8
                  have H1 : (some true) = some r := by rw [if_neg (show ¬ (false = true) by decide)] at H; exact H
                  clear H
                  have H := H1
                  clear H1
                  obtain rfl := Option.some.inj H
                  go_wp2
                  go_ret
                  exact ⟨by first | rfl | (simp; done) | (simp [*]; done) | (simp [IntKind.wrap_u8, IntKind.wrap_i64, wrap64]; done) | (simp only [IntKind.wrap_u8]; rfl), by repeat (first | exact Drawn0.refl _ | apply Drawn0.step)⟩

end Go.Proofs.Ytgopphglkjdcaaa.Px
