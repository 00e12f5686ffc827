-- Laid by wip/hprint.py: the kit's print of the translation, turned in places, beside contracts that this session wrote by hand; Lean checks all of it.
import Derived.Test.YtbeegnajghkhoaaPx0
import Derived.Test.YtbeegnajghkhoaaPx1
import Derived.Test.YtbeegnajghkhoaaPx2
import Derived.Test.YtbeegnajghkhoaaPx3
namespace Go.Proofs.Ytbeegnajghkhoaa.Px
open Go.RowKit Go.Proofs.YtbeegnajghkhoaaW.PrintWords Go.Proofs.YtbeegnajghkhoaaW.PrintLast Go.Proofs.YtbeegnajghkhoaaW.PrintMore
attribute [local go_sem] max2_int min2_int max_two min_two max_three min_three max_four min_four   -- for this text's walks alone
set_option linter.unusedVariables false
set_option linter.unusedSimpArgs false

/-! ### gonglaw01_OctetOne: function 4 -/
mutual
def gonglaw01_OctetOne.j0 : Nat → ByteArray → Int → Int → Bool → Option (Bool)
  | 0, _, _, _, _ => none
  | k + 1, x0, x1, x2, x22 => if x22 = true then ((gonglaw01_works.f).bind fun t140 => (some t140)) else ((octet_Read.f x0).bind fun bt141 => ((octet_Reader_Groups.f k bt141.1 bt141.2 9223372036854775807).bind fun bt144 => ((octet_Reader_Code.f bt144.2.1 bt144.2.2).bind fun bt147 => (if bt147.1 = 0 then ((octet_Groups.f bt144.1).bind fun bt150 => (if bt150.2 = 0 then ((octet_Reader_Left.f bt147.2.1 bt147.2.2).bind fun bt152 => (if 0 ≤ (wrap64 ((x0.size : Int) - bt152.1)) then (if (wrap64 ((x0.size : Int) - bt152.1)) ≤ (x0.size : Int) then (gonglaw01_OctetOne.j1 k x1 x2 (bt150.1.toList != (x0.extract 0 ((wrap64 ((x0.size : Int) - bt152.1)) : Int).toNat).toList)) else (none)) else (none))) else (gonglaw01_OctetOne.j1 k x1 x2 true))) else (if bt144.1 = 0 then ((octet_Reader_Left.f bt147.2.1 bt147.2.2).bind fun bt159 => (gonglaw01_OctetOne.j2 k x1 x2 (bt159.1 != (x0.size : Int)))) else (gonglaw01_OctetOne.j2 k x1 x2 true))))))
def gonglaw01_OctetOne.j1 : Nat → Int → Int → Bool → Option (Bool)
  | 0, _, _, _ => none
  | k + 1, x1, x2, x50 => if x50 = true then (some false) else ((octet_Groups.f (Go.bits .and .i64 x1 9223372036854775807)).bind fun bt155 => ((octet_Groups.f (Go.bits .and .i64 x2 9223372036854775807)).bind fun bt157 => (if (bt155.1.size : Int) ≤ (bt157.1.size : Int) then (if 0 ≤ (bt155.1.size : Int) then (if bt155.2 = 0 then (if bt157.2 = 0 then (some (((bt157.1.extract 0 ((bt155.1.size : Int) : Int).toNat).toList == bt155.1.toList) == ((Go.bits .and .i64 x1 9223372036854775807) == (Go.bits .and .i64 x2 9223372036854775807)))) else (some false)) else (some false)) else (none)) else (if bt155.2 = 0 then (if bt157.2 = 0 then (some (false == ((Go.bits .and .i64 x1 9223372036854775807) == (Go.bits .and .i64 x2 9223372036854775807)))) else (some false)) else (some false)))))
def gonglaw01_OctetOne.j2 : Nat → Int → Int → Bool → Option (Bool)
  | 0, _, _, _ => none
  | k + 1, x1, x2, x59 => if x59 = true then (some false) else ((octet_Groups.f (Go.bits .and .i64 x1 9223372036854775807)).bind fun bt162 => ((octet_Groups.f (Go.bits .and .i64 x2 9223372036854775807)).bind fun bt164 => (if (bt162.1.size : Int) ≤ (bt164.1.size : Int) then (if 0 ≤ (bt162.1.size : Int) then (if bt162.2 = 0 then (if bt164.2 = 0 then (some (((bt164.1.extract 0 ((bt162.1.size : Int) : Int).toNat).toList == bt162.1.toList) == ((Go.bits .and .i64 x1 9223372036854775807) == (Go.bits .and .i64 x2 9223372036854775807)))) else (some false)) else (some false)) else (none)) else (if bt162.2 = 0 then (if bt164.2 = 0 then (some (false == ((Go.bits .and .i64 x1 9223372036854775807) == (Go.bits .and .i64 x2 9223372036854775807)))) else (some false)) else (some false)))))
end
def gonglaw01_OctetOne.f (k : Nat) (a0 : ByteArray) (a1 : Int) (a2 : Int) : Option (Bool) := (gonglaw01_works.f).bind fun t139 => (if t139 = true then (gonglaw01_OctetOne.j0 k a0 a1 a2 (decide ((a0.size : Int) > 1000))) else (gonglaw01_OctetOne.j0 k a0 a1 a2 true))
theorem gonglaw01_OctetOne.mono_l : ∀ k, (∀ y0 y1 y2 y3, LeO (gonglaw01_OctetOne.j0 k y0 y1 y2 y3) (gonglaw01_OctetOne.j0 (k + 1) y0 y1 y2 y3)) ∧ (∀ y0 y1 y2, LeO (gonglaw01_OctetOne.j1 k y0 y1 y2) (gonglaw01_OctetOne.j1 (k + 1) y0 y1 y2)) ∧ (∀ y0 y1 y2, LeO (gonglaw01_OctetOne.j2 k y0 y1 y2) (gonglaw01_OctetOne.j2 (k + 1) y0 y1 y2))
  | 0 => ⟨fun _ _ _ _ r h => by simp [gonglaw01_OctetOne.j0] at h, fun _ _ _ r h => by simp [gonglaw01_OctetOne.j1] at h, fun _ _ _ r h => by simp [gonglaw01_OctetOne.j2] at h⟩
  | k + 1 => by
    obtain ⟨ih0, ih1, ih2⟩ := gonglaw01_OctetOne.mono_l k
    refine ⟨?_, ?_, ?_⟩
    · intro y0 y1 y2 y3
      unfold gonglaw01_OctetOne.j0
      repeat' first
      | (with_reducible exact ih0 _ _ _ _)
      | (with_reducible exact ih1 _ _ _)
      | (with_reducible exact ih2 _ _ _)
      | (with_reducible exact octet_Reader_Groups.mono _ _ _ _)
      | (with_reducible exact LeO.refl _)
      | (with_reducible exact LeO.none _)
      | (with_reducible refine LeO.ite ?_ ?_)
      | (with_reducible refine LeO.bind ?_ (fun _ => ?_))
      | exact ih0 _ _ _ _
      | exact ih1 _ _ _
      | exact ih2 _ _ _
      | exact octet_Reader_Groups.mono _ _ _ _
      | exact LeO.none _
      | refine LeO.ite ?_ ?_
      | refine LeO.bind ?_ (fun _ => ?_)
    · intro y0 y1 y2
      unfold gonglaw01_OctetOne.j1
      repeat' first
      | (with_reducible exact ih0 _ _ _ _)
      | (with_reducible exact ih1 _ _ _)
      | (with_reducible exact ih2 _ _ _)
      | (with_reducible exact octet_Reader_Groups.mono _ _ _ _)
      | (with_reducible exact LeO.refl _)
      | (with_reducible exact LeO.none _)
      | (with_reducible refine LeO.ite ?_ ?_)
      | (with_reducible refine LeO.bind ?_ (fun _ => ?_))
      | exact ih0 _ _ _ _
      | exact ih1 _ _ _
      | exact ih2 _ _ _
      | exact octet_Reader_Groups.mono _ _ _ _
      | exact LeO.none _
      | refine LeO.ite ?_ ?_
      | refine LeO.bind ?_ (fun _ => ?_)
    · intro y0 y1 y2
      unfold gonglaw01_OctetOne.j2
      repeat' first
      | (with_reducible exact ih0 _ _ _ _)
      | (with_reducible exact ih1 _ _ _)
      | (with_reducible exact ih2 _ _ _)
      | (with_reducible exact octet_Reader_Groups.mono _ _ _ _)
      | (with_reducible exact LeO.refl _)
      | (with_reducible exact LeO.none _)
      | (with_reducible refine LeO.ite ?_ ?_)
      | (with_reducible refine LeO.bind ?_ (fun _ => ?_))
      | exact ih0 _ _ _ _
      | exact ih1 _ _ _
      | exact ih2 _ _ _
      | exact octet_Reader_Groups.mono _ _ _ _
      | exact LeO.none _
      | refine LeO.ite ?_ ?_
      | refine LeO.bind ?_ (fun _ => ?_)
theorem gonglaw01_OctetOne.mono : ∀ a0 a1 a2 k, LeO (gonglaw01_OctetOne.f k a0 a1 a2) (gonglaw01_OctetOne.f (k + 1) a0 a1 a2) := by
  intro a0 a1 a2 k
  obtain ⟨ih0, ih1, ih2⟩ := gonglaw01_OctetOne.mono_l k
  unfold gonglaw01_OctetOne.f
  repeat' first
      | (with_reducible exact ih0 _ _ _ _)
      | (with_reducible exact ih1 _ _ _)
      | (with_reducible exact ih2 _ _ _)
      | (with_reducible exact octet_Reader_Groups.mono _ _ _ _)
      | (with_reducible exact LeO.refl _)
      | (with_reducible exact LeO.none _)
      | (with_reducible refine LeO.ite ?_ ?_)
      | (with_reducible refine LeO.bind ?_ (fun _ => ?_))
      | exact ih0 _ _ _ _
      | exact ih1 _ _ _
      | exact ih2 _ _ _
      | exact octet_Reader_Groups.mono _ _ _ _
      | exact LeO.none _
      | refine LeO.ite ?_ ?_
      | refine LeO.bind ?_ (fun _ => ?_)
set_option maxHeartbeats 8000000 in
set_option maxRecDepth 100000 in
theorem gonglaw01_OctetOne.calls (k : Nat) (a0 : ByteArray) (a1 : Int) (a2 : Int) (r : Bool) (w : World) (h : gonglaw01_OctetOne.f k a0 a1 a2 = some r) :
    Calls Try.prog 4 #[.string a0, .int .i64 a1, .int .i64 a2] w fun e w' => e = .returned (.bool r) ∧ Below w.heap.size w w' := by
  have HB := Aside0.mk (Below.refl w.heap.size w)
  have H : ((gonglaw01_works.f).bind fun t139 => (if t139 = true then (gonglaw01_OctetOne.j0 k a0 a1 a2 (decide ((a0.size : Int) > 1000))) else (gonglaw01_OctetOne.j0 k a0 a1 a2 true))) = some r := h
  clear h
  have HC4 := Aside0.mk H
  clear H
  go_enter Try.func4, Try.ntmps4
  go_upto_region 1 with (fail)
  go_cut [22] (fun v22 wc => ∃ (kq : Nat) (x22_3 : Bool), v22 = .bool x22_3 ∧ Aside0 (gonglaw01_OctetOne.j0 kq a0 a1 a2 x22_3 = some r) ∧ Aside0 (kq ≤ k) ∧ Aside0 (Below w.heap.size w wc))
  case first =>
    have H := HC4.out
    clear HC4
    replace H := Option.bind_eq_some_iff.mp H
    obtain ⟨t139, A50, H⟩ := H
    replace H : (if t139 = true then (gonglaw01_OctetOne.j0 k a0 a1 a2 (decide ((a0.size : Int) > 1000))) else (gonglaw01_OctetOne.j0 k a0 a1 a2 true)) = some r := H
    have A5 := Aside0.mk A50
    clear A50
    by_cases c6 : t139 = true
    · subst c6
      have H1 : (gonglaw01_OctetOne.j0 k a0 a1 a2 (decide ((a0.size : Int) > 1000))) = some r := by rw [if_pos rfl] at H; exact H
      clear H
      have H := H1
      clear H1
      have H' := Aside0.mk H
      clear H
      go_wp2_with (first | ((with_reducible refine gate_callee (f := 8) rfl ?_); refine goesL_ (some 16) rfl rfl Try.func8 (by kernel_rfl) rfl #[] rfl (by (try simp only [List.map_toArray, List.map_cons, List.map_nil]); first | done | rfl | (simp only [List.length_drop, List.length_take]; rfl)) ?_; (with_reducible refine (gonglaw01_works.calls  true _ A5.out).mono ?_); rintro e w7 ⟨rfl, hb⟩; refine ⟨_, rfl, ?_⟩; have n0_ := Aside0.mk (below_step (by repeat (first | (with_reducible first | exact HB.out | apply below_alloc | apply pw_below_drewN | apply below_drew1) | exact HB.out)) hb); clear HB; have HB := n0_; clear n0_; (try clear hb); (try clear hb2); (try clear hk); (try clear hi)))
      go_meet
      case rel => exact ⟨_, (decide ((a0.size : Int) > 1000)), (by first | rfl | (simp; done) | (simp [*]; done)), H', ⟨by first | omega | exact Nat.le_refl _⟩, ⟨by repeat (first | (with_reducible first | exact HB.out | apply below_alloc | apply pw_below_drewN | apply below_drew1) | exact HB.out)⟩⟩
    · replace c6 := Bool.eq_false_iff.mpr c6
      subst c6
      have H1 : (gonglaw01_OctetOne.j0 k a0 a1 a2 true) = some r := by rw [if_neg (show ¬ (false = true) by decide)] at H; exact H
      clear H
      have H := H1
      clear H1
      have H' := Aside0.mk H
      clear H
      go_wp2_with (first | ((with_reducible refine gate_callee (f := 8) rfl ?_); refine goesL_ (some 16) rfl rfl Try.func8 (by kernel_rfl) rfl #[] rfl (by (try simp only [List.map_toArray, List.map_cons, List.map_nil]); first | done | rfl | (simp only [List.length_drop, List.length_take]; rfl)) ?_; (with_reducible refine (gonglaw01_works.calls  false _ A5.out).mono ?_); rintro e w8 ⟨rfl, hb⟩; refine ⟨_, rfl, ?_⟩; have n0_ := Aside0.mk (below_step (by repeat (first | (with_reducible first | exact HB.out | apply below_alloc | apply pw_below_drewN | apply below_drew1) | exact HB.out)) hb); clear HB; have HB := n0_; clear n0_; (try clear hb); (try clear hb2); (try clear hk); (try clear hi)))
      go_meet
      case rel => exact ⟨_, (true), (by first | rfl | (simp; done) | (simp [*]; done)), H', ⟨by first | omega | exact Nat.le_refl _⟩, ⟨by repeat (first | (with_reducible first | exact HB.out | apply below_alloc | apply pw_below_drewN | apply below_drew1) | exact HB.out)⟩⟩
  case rest =>
    clear HC4
    try clear p2
    try clear c4
    try clear c6
    try clear c8
    obtain ⟨kq, x22_3, rfl, HA, HJ3, HB⟩ := hcut
    cases kq with
    | zero => exact absurd HA.out (by simp [gonglaw01_OctetOne.j0])
    | succ kj3 =>
      have H := HA.out
      clear HA
      simp only [gonglaw01_OctetOne.j0] at H
      by_cases c9 : x22_3 = true
      · subst c9
        have H1 : ((gonglaw01_works.f).bind fun t140 => (some t140)) = some r := by rw [if_pos rfl] at H; exact H
        clear H
        have H := H1
        clear H1
        replace H := Option.bind_eq_some_iff.mp H
        obtain ⟨t140, A100, H⟩ := H
        replace H : (some t140) = some r := H
        have A10 := Aside0.mk A100
        clear A100
        obtain rfl := Option.some.inj H
        go_wp2_with (first | ((with_reducible refine gate_callee (f := 8) rfl ?_); refine goesL_ (some 23) rfl rfl Try.func8 (by kernel_rfl) rfl #[] rfl (by (try simp only [List.map_toArray, List.map_cons, List.map_nil]); first | done | rfl | (simp only [List.length_drop, List.length_take]; rfl)) ?_; (with_reducible refine (gonglaw01_works.calls  t140 _ A10.out).mono ?_); rintro e w11 ⟨rfl, hb⟩; refine ⟨_, rfl, ?_⟩; have n0_ := Aside0.mk (below_step (by repeat (first | (with_reducible first | exact HB.out | apply below_alloc | apply pw_below_drewN | apply below_drew1) | exact HB.out)) hb); clear HB; have HB := n0_; clear n0_; (try clear hb); (try clear hb2); (try clear hk); (try clear hi)))
        go_ret
        exact ⟨by first | rfl | (simp [errW_none, errW_some] <;> rfl) | (simp [*, errW_none, errW_some] <;> rfl), by repeat (first | (with_reducible first | exact HB.out | apply below_alloc | apply pw_below_drewN | apply below_drew1) | exact HB.out)⟩
      · replace c9 := Bool.eq_false_iff.mpr c9
        subst c9
        have H1 : ((octet_Read.f a0).bind fun bt141 => ((octet_Reader_Groups.f kj3 bt141.1 bt141.2 9223372036854775807).bind fun bt144 => ((octet_Reader_Code.f bt144.2.1 bt144.2.2).bind fun bt147 => (if bt147.1 = 0 then ((octet_Groups.f bt144.1).bind fun bt150 => (if bt150.2 = 0 then ((octet_Reader_Left.f bt147.2.1 bt147.2.2).bind fun bt152 => (if 0 ≤ (wrap64 ((a0.size : Int) - bt152.1)) then (if (wrap64 ((a0.size : Int) - bt152.1)) ≤ (a0.size : Int) then (gonglaw01_OctetOne.j1 kj3 a1 a2 (bt150.1.toList != (a0.extract 0 ((wrap64 ((a0.size : Int) - bt152.1)) : Int).toNat).toList)) else (none)) else (none))) else (gonglaw01_OctetOne.j1 kj3 a1 a2 true))) else (if bt144.1 = 0 then ((octet_Reader_Left.f bt147.2.1 bt147.2.2).bind fun bt159 => (gonglaw01_OctetOne.j2 kj3 a1 a2 (bt159.1 != (a0.size : Int)))) else (gonglaw01_OctetOne.j2 kj3 a1 a2 true)))))) = some r := by rw [if_neg (show ¬ (false = true) by decide)] at H; exact H
        clear H
        have H := H1
        clear H1
        replace H := Option.bind_eq_some_iff.mp H
        obtain ⟨⟨t141, t142⟩, A120, H⟩ := H
        replace H : ((octet_Reader_Groups.f kj3 t141 t142 9223372036854775807).bind fun bt144 => ((octet_Reader_Code.f bt144.2.1 bt144.2.2).bind fun bt147 => (if bt147.1 = 0 then ((octet_Groups.f bt144.1).bind fun bt150 => (if bt150.2 = 0 then ((octet_Reader_Left.f bt147.2.1 bt147.2.2).bind fun bt152 => (if 0 ≤ (wrap64 ((a0.size : Int) - bt152.1)) then (if (wrap64 ((a0.size : Int) - bt152.1)) ≤ (a0.size : Int) then (gonglaw01_OctetOne.j1 kj3 a1 a2 (bt150.1.toList != (a0.extract 0 ((wrap64 ((a0.size : Int) - bt152.1)) : Int).toNat).toList)) else (none)) else (none))) else (gonglaw01_OctetOne.j1 kj3 a1 a2 true))) else (if bt144.1 = 0 then ((octet_Reader_Left.f bt147.2.1 bt147.2.2).bind fun bt159 => (gonglaw01_OctetOne.j2 kj3 a1 a2 (bt159.1 != (a0.size : Int)))) else (gonglaw01_OctetOne.j2 kj3 a1 a2 true))))) = some r := H
        have A12 := Aside0.mk A120
        clear A120
        replace H := Option.bind_eq_some_iff.mp H
        obtain ⟨⟨t144, t145, t146⟩, A130, H⟩ := H
        replace H : ((octet_Reader_Code.f t145 t146).bind fun bt147 => (if bt147.1 = 0 then ((octet_Groups.f t144).bind fun bt150 => (if bt150.2 = 0 then ((octet_Reader_Left.f bt147.2.1 bt147.2.2).bind fun bt152 => (if 0 ≤ (wrap64 ((a0.size : Int) - bt152.1)) then (if (wrap64 ((a0.size : Int) - bt152.1)) ≤ (a0.size : Int) then (gonglaw01_OctetOne.j1 kj3 a1 a2 (bt150.1.toList != (a0.extract 0 ((wrap64 ((a0.size : Int) - bt152.1)) : Int).toNat).toList)) else (none)) else (none))) else (gonglaw01_OctetOne.j1 kj3 a1 a2 true))) else (if t144 = 0 then ((octet_Reader_Left.f bt147.2.1 bt147.2.2).bind fun bt159 => (gonglaw01_OctetOne.j2 kj3 a1 a2 (bt159.1 != (a0.size : Int)))) else (gonglaw01_OctetOne.j2 kj3 a1 a2 true)))) = some r := H
        have A13 := Aside0.mk A130
        clear A130
        replace H := Option.bind_eq_some_iff.mp H
        obtain ⟨⟨t147, t148, t149⟩, A140, H⟩ := H
        replace H : (if t147 = 0 then ((octet_Groups.f t144).bind fun bt150 => (if bt150.2 = 0 then ((octet_Reader_Left.f t148 t149).bind fun bt152 => (if 0 ≤ (wrap64 ((a0.size : Int) - bt152.1)) then (if (wrap64 ((a0.size : Int) - bt152.1)) ≤ (a0.size : Int) then (gonglaw01_OctetOne.j1 kj3 a1 a2 (bt150.1.toList != (a0.extract 0 ((wrap64 ((a0.size : Int) - bt152.1)) : Int).toNat).toList)) else (none)) else (none))) else (gonglaw01_OctetOne.j1 kj3 a1 a2 true))) else (if t144 = 0 then ((octet_Reader_Left.f t148 t149).bind fun bt159 => (gonglaw01_OctetOne.j2 kj3 a1 a2 (bt159.1 != (a0.size : Int)))) else (gonglaw01_OctetOne.j2 kj3 a1 a2 true))) = some r := H
        have A14 := Aside0.mk A140
        clear A140
        by_cases c15 : t147 = 0
        · rw [if_pos c15] at H
          have c15b0 : (t147 == 0) = true := beq_iff_eq.mpr c15
          have c15b1 : (t147 != 0) = false := bne_eq_false_iff_eq.mpr c15
          clear c15
          replace H := Option.bind_eq_some_iff.mp H
          obtain ⟨⟨t150, t151⟩, A160, H⟩ := H
          replace H : (if t151 = 0 then ((octet_Reader_Left.f t148 t149).bind fun bt152 => (if 0 ≤ (wrap64 ((a0.size : Int) - bt152.1)) then (if (wrap64 ((a0.size : Int) - bt152.1)) ≤ (a0.size : Int) then (gonglaw01_OctetOne.j1 kj3 a1 a2 (t150.toList != (a0.extract 0 ((wrap64 ((a0.size : Int) - bt152.1)) : Int).toNat).toList)) else (none)) else (none))) else (gonglaw01_OctetOne.j1 kj3 a1 a2 true)) = some r := H
          have A16 := Aside0.mk A160
          clear A160
          have HC17 := Aside0.mk H
          clear H
          go_upto_region 9 with (first | ((with_reducible refine gate_callee (f := 15) rfl ?_); refine goesL_ (some 25) rfl rfl Try.func15 (by kernel_rfl) rfl #[.string a0] rfl (by (try simp only [List.map_toArray, List.map_cons, List.map_nil]); first | done | rfl | (simp only [List.length_drop, List.length_take]; rfl)) ?_; (with_reducible refine (octet_Read.calls a0 t141 t142 w _ ?side1 A12.out).mono ?_); (case side1 => repeat (first | (with_reducible first | exact HB.out | apply below_alloc | apply pw_below_drewN | apply below_drew1) | exact HB.out)); rintro e w18 ⟨g143, rfl, hi, hb, hb2⟩; refine ⟨_, rfl, ?_⟩; have n0_ := Aside0.mk (hb); have n1_ := Aside0.mk (hi); clear HB; have HB := n0_; have HI143 := n1_; clear n0_ n1_; (try clear hb); (try clear hb2); (try clear hk); (try clear hi)) | ((with_reducible refine gate_callee (f := 16) rfl ?_); refine goesL_ (some 29) rfl rfl Try.func16 (by kernel_rfl) rfl #[.pointer (some ⟨g143, 0, none⟩), .int .i64 9223372036854775807] rfl (by (try simp only [List.map_toArray, List.map_cons, List.map_nil]); first | done | rfl | (simp only [List.length_drop, List.length_take]; rfl)) ?_; (with_reducible refine (octet_Reader_Groups.calls kj3 g143 t141 t142 9223372036854775807 t144 t145 t146 w _ ?side1 ?side2 A13.out).mono ?_); (case side1 => repeat (first | (with_reducible first | exact HI143.out | apply IsS59.alloc | apply IsS59.drewN | apply IsS59.drew | apply IsS59.set_0 | apply IsS59.set_1) | exact HI143.out)); (case side2 => repeat (first | (with_reducible first | exact HB.out | apply below_alloc | apply pw_below_drewN | apply below_drew1 | refine below_set ?_ (IsS59.ge HI143.out)) | exact HB.out)); rintro e w19 ⟨rfl, hi, hb, hk⟩; refine ⟨_, rfl, ?_⟩; have n0_ := Aside0.mk (hb); have n1_ := Aside0.mk (hi); clear HB; clear HI143; have HB := n0_; have HI143 := n1_; clear n0_ n1_; (try clear hb); (try clear hb2); (try clear hk); (try clear hi)) | ((with_reducible refine gate_callee (f := 17) rfl ?_); refine goesL_ (some 31) rfl rfl Try.func17 (by kernel_rfl) rfl #[.pointer (some ⟨g143, 0, none⟩)] rfl (by (try simp only [List.map_toArray, List.map_cons, List.map_nil]); first | done | rfl | (simp only [List.length_drop, List.length_take]; rfl)) ?_; (with_reducible refine (octet_Reader_Code.calls g143 t145 t146 t147 t148 t149 w _ ?side1 ?side2 A14.out).mono ?_); (case side1 => repeat (first | (with_reducible first | exact HI143.out | apply IsS59.alloc | apply IsS59.drewN | apply IsS59.drew | apply IsS59.set_0 | apply IsS59.set_1) | exact HI143.out)); (case side2 => repeat (first | (with_reducible first | exact HB.out | apply below_alloc | apply pw_below_drewN | apply below_drew1 | refine below_set ?_ (IsS59.ge HI143.out)) | exact HB.out)); rintro e w20 ⟨rfl, hi, hb, hk⟩; refine ⟨_, rfl, ?_⟩; have n0_ := Aside0.mk (hb); have n1_ := Aside0.mk (hi); clear HB; clear HI143; have HB := n0_; have HI143 := n1_; clear n0_ n1_; (try clear hb); (try clear hb2); (try clear hk); (try clear hi)) | ((with_reducible refine gate_callee (f := 9) rfl ?_); refine goesL_ (some 35) rfl rfl Try.func9 (by kernel_rfl) rfl #[.int .i64 t144] rfl (by (try simp only [List.map_toArray, List.map_cons, List.map_nil]); first | done | rfl | (simp only [List.length_drop, List.length_take]; rfl)) ?_; (with_reducible refine (octet_Groups.calls t144 t150 t151 _ A16.out).mono ?_); rintro e w21 ⟨rfl, hb⟩; refine ⟨_, rfl, ?_⟩; have n0_ := Aside0.mk (IsS59.below (by repeat (first | (with_reducible first | exact HI143.out | apply IsS59.alloc | apply IsS59.drewN | apply IsS59.drew | apply IsS59.set_0 | apply IsS59.set_1) | exact HI143.out)) hb); have n1_ := Aside0.mk (below_step (by repeat (first | (with_reducible first | exact HB.out | apply below_alloc | apply pw_below_drewN | apply below_drew1 | refine below_set ?_ (IsS59.ge HI143.out)) | exact HB.out)) hb); clear HI143; clear HB; have HI143 := n0_; have HB := n1_; clear n0_ n1_; (try clear hb); (try clear hb2); (try clear hk); (try clear hi)))
          (try simp only [Act.put, List.setIfInBounds_toArray, List.set_cons_zero, List.set_cons_succ])
          go_cut [50] (fun v50 wc => ∃ (kq : Nat) (x50_16 : Bool), v50 = .bool x50_16 ∧ Aside0 (gonglaw01_OctetOne.j1 kq a1 a2 x50_16 = some r) ∧ Aside0 (kq ≤ kj3) ∧ Aside0 (Below w.heap.size w wc))
          case first =>
            have H := HC17.out
            clear HC17
            by_cases c22 : t151 = 0
            · rw [if_pos c22] at H
              have c22b0 : (t151 == 0) = true := beq_iff_eq.mpr c22
              have c22b1 : (t151 != 0) = false := bne_eq_false_iff_eq.mpr c22
              clear c22
              (first | rw [c22b0] | (simp only [i64_w, i32_w]; rw [c22b0]) | skip)
              replace H := Option.bind_eq_some_iff.mp H
              obtain ⟨⟨t152, t153, t154⟩, A230, H⟩ := H
              replace H : (if 0 ≤ (wrap64 ((a0.size : Int) - t152)) then (if (wrap64 ((a0.size : Int) - t152)) ≤ (a0.size : Int) then (gonglaw01_OctetOne.j1 kj3 a1 a2 (t150.toList != (a0.extract 0 ((wrap64 ((a0.size : Int) - t152)) : Int).toNat).toList)) else (none)) else (none)) = some r := H
              have A23 := Aside0.mk A230
              clear A230
              obtain ⟨ji24, hji24⟩ : ∃ j_ : Int, (wrap64 ((a0.size : Int) - t152)) = j_ := ⟨_, rfl⟩
              replace H : (if 0 ≤ (ji24) then (if (ji24) ≤ (a0.size : Int) then (gonglaw01_OctetOne.j1 kj3 a1 a2 (t150.toList != (a0.extract 0 ((ji24) : Int).toNat).toList)) else (none)) else (none)) = some r := by first | (rw [hji24] at H; exact H) | (simp only [hji24] at H ⊢; exact H)
              (try rw [hji24] at A23)
              have hji24w : (IntKind.i64.wrap ((a0.size : Int) - t152)) = ji24 := (i64_w _).trans hji24
              by_cases c25 : 0 ≤ (ji24)
              · rw [if_pos c25] at H
                have c25b0 := eq_true c25
                have c25b1 : decide (0 ≤ (ji24)) = true := decide_eq_true c25
                clear c25
                by_cases c26 : (ji24) ≤ (a0.size : Int)
                · rw [if_pos c26] at H
                  have c26b0 := eq_true c26
                  have c26b1 : decide ((ji24) ≤ (a0.size : Int)) = true := decide_eq_true c26
                  clear c26
                  have H' := Aside0.mk H
                  clear H
                  go_wp2_with (first | (go_at_call 18; (with_reducible refine (octet_Reader_Left.calls g143 t148 t149 t152 t153 t154 w _ ?side1 ?side2 A23.out).mono ?_); (case side1 => repeat (first | (with_reducible first | exact HI143.out | apply IsS59.alloc | apply IsS59.drewN | apply IsS59.drew | apply IsS59.set_0 | apply IsS59.set_1) | exact HI143.out)); (case side2 => repeat (first | (with_reducible first | exact HB.out | apply below_alloc | apply pw_below_drewN | apply below_drew1 | refine below_set ?_ (IsS59.ge HI143.out)) | exact HB.out)); rintro e w27 ⟨rfl, hi, hb, hk⟩; have n0_ := Aside0.mk (hb); have n1_ := Aside0.mk (hi); clear HB; clear HI143; have HB := n0_; have HI143 := n1_; clear n0_ n1_; (try clear hb); (try clear hb2); (try clear hk); (try clear hi)))
                  go_meet
                  case rel => exact ⟨_, ((t150.toList != (a0.extract 0 ((ji24) : Int).toNat).toList)), (by first | rfl | (simp; done) | (simp only [← hji24] <;> (first | rfl | simp)) | (simp [*]; done)), H', ⟨by have := HJ3.out; first | omega | exact Nat.le_refl _⟩, ⟨by repeat (first | (with_reducible first | exact HB.out | apply below_alloc | apply pw_below_drewN | apply below_drew1 | refine below_set ?_ (IsS59.ge HI143.out)) | exact HB.out)⟩⟩
                · rw [if_neg c26] at H
                  exact absurd H (by simp)
              · rw [if_neg c25] at H
                exact absurd H (by simp)
            · rw [if_neg c22] at H
              have c22b0 : (t151 == 0) = false := beq_eq_false_iff_ne.mpr c22
              have c22b1 : (t151 != 0) = true := bne_iff_ne.mpr c22
              (first | rw [c22b0] | (simp only [i64_w, i32_w]; rw [c22b0]) | skip)
              have H' := Aside0.mk H
              clear H
              go_wp2
              go_meet
              case rel => exact ⟨_, (true), (by first | rfl | (simp; done) | (simp [*]; done)), H', ⟨by have := HJ3.out; first | omega | exact Nat.le_refl _⟩, ⟨by repeat (first | (with_reducible first | exact HB.out | apply below_alloc | apply pw_below_drewN | apply below_drew1 | refine below_set ?_ (IsS59.ge HI143.out)) | exact HB.out)⟩⟩
          case rest =>
            clear HC17
            try clear c1
            try clear c2
            try clear p2
            try clear c4
            try clear c6
            try clear p6
            try clear c8
            try clear c9
            try clear c15
            try clear c15b0
            try clear c15b1
            try clear c16
            try clear c17
            try clear c22
            try clear c22b0
            try clear c22b1
            try clear c25
            try clear c25b0
            try clear c25b1
            try clear c26
            try clear c26b0
            try clear c26b1
            try clear p2
            obtain ⟨kq, x50_16, rfl, HA, HJ16, HB⟩ := hcut
            cases kq with
            | zero => exact absurd HA.out (by simp [gonglaw01_OctetOne.j1])
            | succ kj16 =>
              have H := HA.out
              clear HA
              simp only [gonglaw01_OctetOne.j1] at H
              by_cases c28 : x50_16 = true
              · subst c28
                have H1 : (some false) = some r := by rw [if_pos rfl] at H; exact H
                clear H
                have H := H1
                clear H1
                obtain rfl := Option.some.inj H
                go_wp2
                go_ret
                exact ⟨by first | rfl | (simp [errW_none, errW_some] <;> rfl) | (simp [*, errW_none, errW_some] <;> rfl), by repeat (first | (with_reducible first | exact HB.out | apply below_alloc | apply pw_below_drewN | apply below_drew1) | exact HB.out)⟩
              · replace c28 := Bool.eq_false_iff.mpr c28
                subst c28
                have H1 : ((octet_Groups.f (Go.bits .and .i64 a1 9223372036854775807)).bind fun bt155 => ((octet_Groups.f (Go.bits .and .i64 a2 9223372036854775807)).bind fun bt157 => (if (bt155.1.size : Int) ≤ (bt157.1.size : Int) then (if 0 ≤ (bt155.1.size : Int) then (if bt155.2 = 0 then (if bt157.2 = 0 then (some (((bt157.1.extract 0 ((bt155.1.size : Int) : Int).toNat).toList == bt155.1.toList) == ((Go.bits .and .i64 a1 9223372036854775807) == (Go.bits .and .i64 a2 9223372036854775807)))) else (some false)) else (some false)) else (none)) else (if bt155.2 = 0 then (if bt157.2 = 0 then (some (false == ((Go.bits .and .i64 a1 9223372036854775807) == (Go.bits .and .i64 a2 9223372036854775807)))) else (some false)) else (some false))))) = some r := by rw [if_neg (show ¬ (false = true) by decide)] at H; exact H
                clear H
                have H := H1
                clear H1
                replace H := Option.bind_eq_some_iff.mp H
                obtain ⟨⟨t155, t156⟩, A290, H⟩ := H
                replace H : ((octet_Groups.f (Go.bits .and .i64 a2 9223372036854775807)).bind fun bt157 => (if (t155.size : Int) ≤ (bt157.1.size : Int) then (if 0 ≤ (t155.size : Int) then (if t156 = 0 then (if bt157.2 = 0 then (some (((bt157.1.extract 0 ((t155.size : Int) : Int).toNat).toList == t155.toList) == ((Go.bits .and .i64 a1 9223372036854775807) == (Go.bits .and .i64 a2 9223372036854775807)))) else (some false)) else (some false)) else (none)) else (if t156 = 0 then (if bt157.2 = 0 then (some (false == ((Go.bits .and .i64 a1 9223372036854775807) == (Go.bits .and .i64 a2 9223372036854775807)))) else (some false)) else (some false)))) = some r := H
                have A29 := Aside0.mk A290
                clear A290
                replace H := Option.bind_eq_some_iff.mp H
                obtain ⟨⟨t157, t158⟩, A300, H⟩ := H
                replace H : (if (t155.size : Int) ≤ (t157.size : Int) then (if 0 ≤ (t155.size : Int) then (if t156 = 0 then (if t158 = 0 then (some (((t157.extract 0 ((t155.size : Int) : Int).toNat).toList == t155.toList) == ((Go.bits .and .i64 a1 9223372036854775807) == (Go.bits .and .i64 a2 9223372036854775807)))) else (some false)) else (some false)) else (none)) else (if t156 = 0 then (if t158 = 0 then (some (false == ((Go.bits .and .i64 a1 9223372036854775807) == (Go.bits .and .i64 a2 9223372036854775807)))) else (some false)) else (some false))) = some r := H
                have A30 := Aside0.mk A300
                clear A300
                by_cases c31 : (t155.size : Int) ≤ (t157.size : Int)
                · rw [if_pos c31] at H
                  have c31b0 : decide ((t155.size : Int) ≤ (t157.size : Int)) = true := decide_eq_true c31
                  have c31b1 : decide (t155.size ≤ t157.size) = true := decide_eq_true (Int.ofNat_le.mp c31)
                  clear c31
                  by_cases c32 : 0 ≤ (t155.size : Int)
                  · rw [if_pos c32] at H
                    have c32b0 := eq_true c32
                    have c32b1 : decide (0 ≤ (t155.size : Int)) = true := decide_eq_true c32
                    clear c32
                    have c33b0 := eq_true (of_decide_eq_true (by first | (with_reducible assumption) | assumption) : (t155.size : Int) ≤ (t157.size : Int))
                    by_cases c34 : t156 = 0
                    · rw [if_pos c34] at H
                      have c34b0 : (t156 == 0) = true := beq_iff_eq.mpr c34
                      have c34b1 : (t156 != 0) = false := bne_eq_false_iff_eq.mpr c34
                      clear c34
                      by_cases c35 : t158 = 0
                      · rw [if_pos c35] at H
                        have c35b0 : (t158 == 0) = true := beq_iff_eq.mpr c35
                        have c35b1 : (t158 != 0) = false := bne_eq_false_iff_eq.mpr c35
                        clear c35
                        obtain rfl := Option.some.inj H
                        go_wp2_with (first | ((with_reducible refine gate_callee (f := 9) rfl ?_); refine goesL_ (some 66) rfl rfl Try.func9 (by kernel_rfl) rfl #[.int .i64 (Go.bits .and .i64 a1 9223372036854775807)] rfl (by (try simp only [List.map_toArray, List.map_cons, List.map_nil]); first | done | rfl | (simp only [List.length_drop, List.length_take]; rfl)) ?_; (with_reducible refine (octet_Groups.calls (Go.bits .and .i64 a1 9223372036854775807) t155 t156 _ A29.out).mono ?_); rintro e w36 ⟨rfl, hb⟩; refine ⟨_, rfl, ?_⟩; have n0_ := Aside0.mk (below_step (by repeat (first | (with_reducible first | exact HB.out | apply below_alloc | apply pw_below_drewN | apply below_drew1) | exact HB.out)) hb); clear HB; have HB := n0_; clear n0_; (try clear hb); (try clear hb2); (try clear hk); (try clear hi)) | ((with_reducible refine gate_callee (f := 9) rfl ?_); refine goesL_ (some 71) rfl rfl Try.func9 (by kernel_rfl) rfl #[.int .i64 (Go.bits .and .i64 a2 9223372036854775807)] rfl (by (try simp only [List.map_toArray, List.map_cons, List.map_nil]); first | done | rfl | (simp only [List.length_drop, List.length_take]; rfl)) ?_; (with_reducible refine (octet_Groups.calls (Go.bits .and .i64 a2 9223372036854775807) t157 t158 _ A30.out).mono ?_); rintro e w37 ⟨rfl, hb⟩; refine ⟨_, rfl, ?_⟩; have n0_ := Aside0.mk (below_step (by repeat (first | (with_reducible first | exact HB.out | apply below_alloc | apply pw_below_drewN | apply below_drew1) | exact HB.out)) hb); clear HB; have HB := n0_; clear n0_; (try clear hb); (try clear hb2); (try clear hk); (try clear hi)))
                        go_ret
                        exact ⟨by first | rfl | (simp [errW_none, errW_some] <;> rfl) | (simp [*, errW_none, errW_some] <;> rfl), by repeat (first | (with_reducible first | exact HB.out | apply below_alloc | apply pw_below_drewN | apply below_drew1) | exact HB.out)⟩
                      · rw [if_neg c35] at H
                        have c35b0 : (t158 == 0) = false := beq_eq_false_iff_ne.mpr c35
                        have c35b1 : (t158 != 0) = true := bne_iff_ne.mpr c35
                        obtain rfl := Option.some.inj H
                        go_wp2_with (first | ((with_reducible refine gate_callee (f := 9) rfl ?_); refine goesL_ (some 66) rfl rfl Try.func9 (by kernel_rfl) rfl #[.int .i64 (Go.bits .and .i64 a1 9223372036854775807)] rfl (by (try simp only [List.map_toArray, List.map_cons, List.map_nil]); first | done | rfl | (simp only [List.length_drop, List.length_take]; rfl)) ?_; (with_reducible refine (octet_Groups.calls (Go.bits .and .i64 a1 9223372036854775807) t155 t156 _ A29.out).mono ?_); rintro e w38 ⟨rfl, hb⟩; refine ⟨_, rfl, ?_⟩; have n0_ := Aside0.mk (below_step (by repeat (first | (with_reducible first | exact HB.out | apply below_alloc | apply pw_below_drewN | apply below_drew1) | exact HB.out)) hb); clear HB; have HB := n0_; clear n0_; (try clear hb); (try clear hb2); (try clear hk); (try clear hi)) | ((with_reducible refine gate_callee (f := 9) rfl ?_); refine goesL_ (some 71) rfl rfl Try.func9 (by kernel_rfl) rfl #[.int .i64 (Go.bits .and .i64 a2 9223372036854775807)] rfl (by (try simp only [List.map_toArray, List.map_cons, List.map_nil]); first | done | rfl | (simp only [List.length_drop, List.length_take]; rfl)) ?_; (with_reducible refine (octet_Groups.calls (Go.bits .and .i64 a2 9223372036854775807) t157 t158 _ A30.out).mono ?_); rintro e w39 ⟨rfl, hb⟩; refine ⟨_, rfl, ?_⟩; have n0_ := Aside0.mk (below_step (by repeat (first | (with_reducible first | exact HB.out | apply below_alloc | apply pw_below_drewN | apply below_drew1) | exact HB.out)) hb); clear HB; have HB := n0_; clear n0_; (try clear hb); (try clear hb2); (try clear hk); (try clear hi)))
                        go_ret
                        exact ⟨by first | rfl | (simp [errW_none, errW_some] <;> rfl) | (simp [*, errW_none, errW_some] <;> rfl), by repeat (first | (with_reducible first | exact HB.out | apply below_alloc | apply pw_below_drewN | apply below_drew1) | exact HB.out)⟩
                    · rw [if_neg c34] at H
                      have c34b0 : (t156 == 0) = false := beq_eq_false_iff_ne.mpr c34
                      have c34b1 : (t156 != 0) = true := bne_iff_ne.mpr c34
                      obtain rfl := Option.some.inj H
                      go_wp2_with (first | ((with_reducible refine gate_callee (f := 9) rfl ?_); refine goesL_ (some 66) rfl rfl Try.func9 (by kernel_rfl) rfl #[.int .i64 (Go.bits .and .i64 a1 9223372036854775807)] rfl (by (try simp only [List.map_toArray, List.map_cons, List.map_nil]); first | done | rfl | (simp only [List.length_drop, List.length_take]; rfl)) ?_; (with_reducible refine (octet_Groups.calls (Go.bits .and .i64 a1 9223372036854775807) t155 t156 _ A29.out).mono ?_); rintro e w40 ⟨rfl, hb⟩; refine ⟨_, rfl, ?_⟩; have n0_ := Aside0.mk (below_step (by repeat (first | (with_reducible first | exact HB.out | apply below_alloc | apply pw_below_drewN | apply below_drew1) | exact HB.out)) hb); clear HB; have HB := n0_; clear n0_; (try clear hb); (try clear hb2); (try clear hk); (try clear hi)) | ((with_reducible refine gate_callee (f := 9) rfl ?_); refine goesL_ (some 71) rfl rfl Try.func9 (by kernel_rfl) rfl #[.int .i64 (Go.bits .and .i64 a2 9223372036854775807)] rfl (by (try simp only [List.map_toArray, List.map_cons, List.map_nil]); first | done | rfl | (simp only [List.length_drop, List.length_take]; rfl)) ?_; (with_reducible refine (octet_Groups.calls (Go.bits .and .i64 a2 9223372036854775807) t157 t158 _ A30.out).mono ?_); rintro e w41 ⟨rfl, hb⟩; refine ⟨_, rfl, ?_⟩; have n0_ := Aside0.mk (below_step (by repeat (first | (with_reducible first | exact HB.out | apply below_alloc | apply pw_below_drewN | apply below_drew1) | exact HB.out)) hb); clear HB; have HB := n0_; clear n0_; (try clear hb); (try clear hb2); (try clear hk); (try clear hi)))
                      go_ret
                      exact ⟨by first | rfl | (simp [errW_none, errW_some] <;> rfl) | (simp [*, errW_none, errW_some] <;> rfl), by repeat (first | (with_reducible first | exact HB.out | apply below_alloc | apply pw_below_drewN | apply below_drew1) | exact HB.out)⟩
                  · rw [if_neg c32] at H
                    exact absurd H (by simp)
                · rw [if_neg c31] at H
                  have c31b0 : decide ((t155.size : Int) ≤ (t157.size : Int)) = false := decide_eq_false c31
                  have c31b1 : decide (t155.size ≤ t157.size) = false := decide_eq_false (fun h => c31 (Int.ofNat_le.mpr h))
                  clear c31
                  by_cases c42 : t156 = 0
                  · rw [if_pos c42] at H
                    have c42b0 : (t156 == 0) = true := beq_iff_eq.mpr c42
                    have c42b1 : (t156 != 0) = false := bne_eq_false_iff_eq.mpr c42
                    clear c42
                    by_cases c43 : t158 = 0
                    · rw [if_pos c43] at H
                      have c43b0 : (t158 == 0) = true := beq_iff_eq.mpr c43
                      have c43b1 : (t158 != 0) = false := bne_eq_false_iff_eq.mpr c43
                      clear c43
                      obtain rfl := Option.some.inj H
                      go_wp2_with (first | ((with_reducible refine gate_callee (f := 9) rfl ?_); refine goesL_ (some 66) rfl rfl Try.func9 (by kernel_rfl) rfl #[.int .i64 (Go.bits .and .i64 a1 9223372036854775807)] rfl (by (try simp only [List.map_toArray, List.map_cons, List.map_nil]); first | done | rfl | (simp only [List.length_drop, List.length_take]; rfl)) ?_; (with_reducible refine (octet_Groups.calls (Go.bits .and .i64 a1 9223372036854775807) t155 t156 _ A29.out).mono ?_); rintro e w44 ⟨rfl, hb⟩; refine ⟨_, rfl, ?_⟩; have n0_ := Aside0.mk (below_step (by repeat (first | (with_reducible first | exact HB.out | apply below_alloc | apply pw_below_drewN | apply below_drew1) | exact HB.out)) hb); clear HB; have HB := n0_; clear n0_; (try clear hb); (try clear hb2); (try clear hk); (try clear hi)) | ((with_reducible refine gate_callee (f := 9) rfl ?_); refine goesL_ (some 71) rfl rfl Try.func9 (by kernel_rfl) rfl #[.int .i64 (Go.bits .and .i64 a2 9223372036854775807)] rfl (by (try simp only [List.map_toArray, List.map_cons, List.map_nil]); first | done | rfl | (simp only [List.length_drop, List.length_take]; rfl)) ?_; (with_reducible refine (octet_Groups.calls (Go.bits .and .i64 a2 9223372036854775807) t157 t158 _ A30.out).mono ?_); rintro e w45 ⟨rfl, hb⟩; refine ⟨_, rfl, ?_⟩; have n0_ := Aside0.mk (below_step (by repeat (first | (with_reducible first | exact HB.out | apply below_alloc | apply pw_below_drewN | apply below_drew1) | exact HB.out)) hb); clear HB; have HB := n0_; clear n0_; (try clear hb); (try clear hb2); (try clear hk); (try clear hi)))
                      go_ret
                      exact ⟨by first | rfl | (simp [errW_none, errW_some] <;> rfl) | (simp [*, errW_none, errW_some] <;> rfl), by repeat (first | (with_reducible first | exact HB.out | apply below_alloc | apply pw_below_drewN | apply below_drew1) | exact HB.out)⟩
                    · rw [if_neg c43] at H
                      have c43b0 : (t158 == 0) = false := beq_eq_false_iff_ne.mpr c43
                      have c43b1 : (t158 != 0) = true := bne_iff_ne.mpr c43
                      obtain rfl := Option.some.inj H
                      go_wp2_with (first | ((with_reducible refine gate_callee (f := 9) rfl ?_); refine goesL_ (some 66) rfl rfl Try.func9 (by kernel_rfl) rfl #[.int .i64 (Go.bits .and .i64 a1 9223372036854775807)] rfl (by (try simp only [List.map_toArray, List.map_cons, List.map_nil]); first | done | rfl | (simp only [List.length_drop, List.length_take]; rfl)) ?_; (with_reducible refine (octet_Groups.calls (Go.bits .and .i64 a1 9223372036854775807) t155 t156 _ A29.out).mono ?_); rintro e w46 ⟨rfl, hb⟩; refine ⟨_, rfl, ?_⟩; have n0_ := Aside0.mk (below_step (by repeat (first | (with_reducible first | exact HB.out | apply below_alloc | apply pw_below_drewN | apply below_drew1) | exact HB.out)) hb); clear HB; have HB := n0_; clear n0_; (try clear hb); (try clear hb2); (try clear hk); (try clear hi)) | ((with_reducible refine gate_callee (f := 9) rfl ?_); refine goesL_ (some 71) rfl rfl Try.func9 (by kernel_rfl) rfl #[.int .i64 (Go.bits .and .i64 a2 9223372036854775807)] rfl (by (try simp only [List.map_toArray, List.map_cons, List.map_nil]); first | done | rfl | (simp only [List.length_drop, List.length_take]; rfl)) ?_; (with_reducible refine (octet_Groups.calls (Go.bits .and .i64 a2 9223372036854775807) t157 t158 _ A30.out).mono ?_); rintro e w47 ⟨rfl, hb⟩; refine ⟨_, rfl, ?_⟩; have n0_ := Aside0.mk (below_step (by repeat (first | (with_reducible first | exact HB.out | apply below_alloc | apply pw_below_drewN | apply below_drew1) | exact HB.out)) hb); clear HB; have HB := n0_; clear n0_; (try clear hb); (try clear hb2); (try clear hk); (try clear hi)))
                      go_ret
                      exact ⟨by first | rfl | (simp [errW_none, errW_some] <;> rfl) | (simp [*, errW_none, errW_some] <;> rfl), by repeat (first | (with_reducible first | exact HB.out | apply below_alloc | apply pw_below_drewN | apply below_drew1) | exact HB.out)⟩
                  · rw [if_neg c42] at H
                    have c42b0 : (t156 == 0) = false := beq_eq_false_iff_ne.mpr c42
                    have c42b1 : (t156 != 0) = true := bne_iff_ne.mpr c42
                    obtain rfl := Option.some.inj H
                    go_wp2_with (first | ((with_reducible refine gate_callee (f := 9) rfl ?_); refine goesL_ (some 66) rfl rfl Try.func9 (by kernel_rfl) rfl #[.int .i64 (Go.bits .and .i64 a1 9223372036854775807)] rfl (by (try simp only [List.map_toArray, List.map_cons, List.map_nil]); first | done | rfl | (simp only [List.length_drop, List.length_take]; rfl)) ?_; (with_reducible refine (octet_Groups.calls (Go.bits .and .i64 a1 9223372036854775807) t155 t156 _ A29.out).mono ?_); rintro e w48 ⟨rfl, hb⟩; refine ⟨_, rfl, ?_⟩; have n0_ := Aside0.mk (below_step (by repeat (first | (with_reducible first | exact HB.out | apply below_alloc | apply pw_below_drewN | apply below_drew1) | exact HB.out)) hb); clear HB; have HB := n0_; clear n0_; (try clear hb); (try clear hb2); (try clear hk); (try clear hi)) | ((with_reducible refine gate_callee (f := 9) rfl ?_); refine goesL_ (some 71) rfl rfl Try.func9 (by kernel_rfl) rfl #[.int .i64 (Go.bits .and .i64 a2 9223372036854775807)] rfl (by (try simp only [List.map_toArray, List.map_cons, List.map_nil]); first | done | rfl | (simp only [List.length_drop, List.length_take]; rfl)) ?_; (with_reducible refine (octet_Groups.calls (Go.bits .and .i64 a2 9223372036854775807) t157 t158 _ A30.out).mono ?_); rintro e w49 ⟨rfl, hb⟩; refine ⟨_, rfl, ?_⟩; have n0_ := Aside0.mk (below_step (by repeat (first | (with_reducible first | exact HB.out | apply below_alloc | apply pw_below_drewN | apply below_drew1) | exact HB.out)) hb); clear HB; have HB := n0_; clear n0_; (try clear hb); (try clear hb2); (try clear hk); (try clear hi)))
                    go_ret
                    exact ⟨by first | rfl | (simp [errW_none, errW_some] <;> rfl) | (simp [*, errW_none, errW_some] <;> rfl), by repeat (first | (with_reducible first | exact HB.out | apply below_alloc | apply pw_below_drewN | apply below_drew1) | exact HB.out)⟩
        · rw [if_neg c15] at H
          have c15b0 : (t147 == 0) = false := beq_eq_false_iff_ne.mpr c15
          have c15b1 : (t147 != 0) = true := bne_iff_ne.mpr c15
          have HC50 := Aside0.mk H
          clear H
          go_upto_region 11 with (first | ((with_reducible refine gate_callee (f := 15) rfl ?_); refine goesL_ (some 25) rfl rfl Try.func15 (by kernel_rfl) rfl #[.string a0] rfl (by (try simp only [List.map_toArray, List.map_cons, List.map_nil]); first | done | rfl | (simp only [List.length_drop, List.length_take]; rfl)) ?_; (with_reducible refine (octet_Read.calls a0 t141 t142 w _ ?side1 A12.out).mono ?_); (case side1 => repeat (first | (with_reducible first | exact HB.out | apply below_alloc | apply pw_below_drewN | apply below_drew1) | exact HB.out)); rintro e w51 ⟨g143, rfl, hi, hb, hb2⟩; refine ⟨_, rfl, ?_⟩; have n0_ := Aside0.mk (hb); have n1_ := Aside0.mk (hi); clear HB; have HB := n0_; have HI143 := n1_; clear n0_ n1_; (try clear hb); (try clear hb2); (try clear hk); (try clear hi)) | ((with_reducible refine gate_callee (f := 16) rfl ?_); refine goesL_ (some 29) rfl rfl Try.func16 (by kernel_rfl) rfl #[.pointer (some ⟨g143, 0, none⟩), .int .i64 9223372036854775807] rfl (by (try simp only [List.map_toArray, List.map_cons, List.map_nil]); first | done | rfl | (simp only [List.length_drop, List.length_take]; rfl)) ?_; (with_reducible refine (octet_Reader_Groups.calls kj3 g143 t141 t142 9223372036854775807 t144 t145 t146 w _ ?side1 ?side2 A13.out).mono ?_); (case side1 => repeat (first | (with_reducible first | exact HI143.out | apply IsS59.alloc | apply IsS59.drewN | apply IsS59.drew | apply IsS59.set_0 | apply IsS59.set_1) | exact HI143.out)); (case side2 => repeat (first | (with_reducible first | exact HB.out | apply below_alloc | apply pw_below_drewN | apply below_drew1 | refine below_set ?_ (IsS59.ge HI143.out)) | exact HB.out)); rintro e w52 ⟨rfl, hi, hb, hk⟩; refine ⟨_, rfl, ?_⟩; have n0_ := Aside0.mk (hb); have n1_ := Aside0.mk (hi); clear HB; clear HI143; have HB := n0_; have HI143 := n1_; clear n0_ n1_; (try clear hb); (try clear hb2); (try clear hk); (try clear hi)) | ((with_reducible refine gate_callee (f := 17) rfl ?_); refine goesL_ (some 31) rfl rfl Try.func17 (by kernel_rfl) rfl #[.pointer (some ⟨g143, 0, none⟩)] rfl (by (try simp only [List.map_toArray, List.map_cons, List.map_nil]); first | done | rfl | (simp only [List.length_drop, List.length_take]; rfl)) ?_; (with_reducible refine (octet_Reader_Code.calls g143 t145 t146 t147 t148 t149 w _ ?side1 ?side2 A14.out).mono ?_); (case side1 => repeat (first | (with_reducible first | exact HI143.out | apply IsS59.alloc | apply IsS59.drewN | apply IsS59.drew | apply IsS59.set_0 | apply IsS59.set_1) | exact HI143.out)); (case side2 => repeat (first | (with_reducible first | exact HB.out | apply below_alloc | apply pw_below_drewN | apply below_drew1 | refine below_set ?_ (IsS59.ge HI143.out)) | exact HB.out)); rintro e w53 ⟨rfl, hi, hb, hk⟩; refine ⟨_, rfl, ?_⟩; have n0_ := Aside0.mk (hb); have n1_ := Aside0.mk (hi); clear HB; clear HI143; have HB := n0_; have HI143 := n1_; clear n0_ n1_; (try clear hb); (try clear hb2); (try clear hk); (try clear hi)))
          (try simp only [Act.put, List.setIfInBounds_toArray, List.set_cons_zero, List.set_cons_succ])
          go_cut [59] (fun v59 wc => ∃ (kq : Nat) (x59_49 : Bool), v59 = .bool x59_49 ∧ Aside0 (gonglaw01_OctetOne.j2 kq a1 a2 x59_49 = some r) ∧ Aside0 (kq ≤ kj3) ∧ Aside0 (Below w.heap.size w wc))
          case first =>
            have H := HC50.out
            clear HC50
            by_cases c54 : t144 = 0
            · rw [if_pos c54] at H
              have c54b0 : (t144 == 0) = true := beq_iff_eq.mpr c54
              have c54b1 : (t144 != 0) = false := bne_eq_false_iff_eq.mpr c54
              clear c54
              (first | rw [c54b0] | (simp only [i64_w, i32_w]; rw [c54b0]) | skip)
              replace H := Option.bind_eq_some_iff.mp H
              obtain ⟨⟨t159, t160, t161⟩, A550, H⟩ := H
              replace H : (gonglaw01_OctetOne.j2 kj3 a1 a2 (t159 != (a0.size : Int))) = some r := H
              have A55 := Aside0.mk A550
              clear A550
              have H' := Aside0.mk H
              clear H
              go_wp2_with (first | (go_at_call 18; (with_reducible refine (octet_Reader_Left.calls g143 t148 t149 t159 t160 t161 w _ ?side1 ?side2 A55.out).mono ?_); (case side1 => repeat (first | (with_reducible first | exact HI143.out | apply IsS59.alloc | apply IsS59.drewN | apply IsS59.drew | apply IsS59.set_0 | apply IsS59.set_1) | exact HI143.out)); (case side2 => repeat (first | (with_reducible first | exact HB.out | apply below_alloc | apply pw_below_drewN | apply below_drew1 | refine below_set ?_ (IsS59.ge HI143.out)) | exact HB.out)); rintro e w56 ⟨rfl, hi, hb, hk⟩; have n0_ := Aside0.mk (hb); have n1_ := Aside0.mk (hi); clear HB; clear HI143; have HB := n0_; have HI143 := n1_; clear n0_ n1_; (try clear hb); (try clear hb2); (try clear hk); (try clear hi)))
              go_meet
              case rel => exact ⟨_, ((t159 != (a0.size : Int))), (by first | rfl | (simp; done) | (simp [*]; done)), H', ⟨by have := HJ3.out; first | omega | exact Nat.le_refl _⟩, ⟨by repeat (first | (with_reducible first | exact HB.out | apply below_alloc | apply pw_below_drewN | apply below_drew1 | refine below_set ?_ (IsS59.ge HI143.out)) | exact HB.out)⟩⟩
            · rw [if_neg c54] at H
              have c54b0 : (t144 == 0) = false := beq_eq_false_iff_ne.mpr c54
              have c54b1 : (t144 != 0) = true := bne_iff_ne.mpr c54
              (first | rw [c54b0] | (simp only [i64_w, i32_w]; rw [c54b0]) | skip)
              have H' := Aside0.mk H
              clear H
              go_wp2
              go_meet
              case rel => exact ⟨_, (true), (by first | rfl | (simp; done) | (simp [*]; done)), H', ⟨by have := HJ3.out; first | omega | exact Nat.le_refl _⟩, ⟨by repeat (first | (with_reducible first | exact HB.out | apply below_alloc | apply pw_below_drewN | apply below_drew1 | refine below_set ?_ (IsS59.ge HI143.out)) | exact HB.out)⟩⟩
          case rest =>
            clear HC50
            try clear c1
            try clear c2
            try clear p2
            try clear c3
            try clear c4
            try clear c5
            try clear c6
            try clear p6
            try clear c8
            try clear c9
            try clear c15
            try clear c15b0
            try clear c15b1
            try clear c16
            try clear c17
            try clear c22
            try clear c22b0
            try clear c22b1
            try clear c25
            try clear c25b0
            try clear c25b1
            try clear c26
            try clear c26b0
            try clear c26b1
            try clear c28
            try clear c31
            try clear c31b0
            try clear c31b1
            try clear c32
            try clear c32b0
            try clear c32b1
            try clear c33
            try clear c33b0
            try clear c34
            try clear c34b0
            try clear c34b1
            try clear c35
            try clear c35b0
            try clear c35b1
            try clear c42
            try clear c42b0
            try clear c42b1
            try clear c43
            try clear c43b0
            try clear c43b1
            try clear c54
            try clear c54b0
            try clear c54b1
            try clear p2
            try clear p6
            obtain ⟨kq, x59_49, rfl, HA, HJ49, HB⟩ := hcut
            cases kq with
            | zero => exact absurd HA.out (by simp [gonglaw01_OctetOne.j2])
            | succ kj49 =>
              have H := HA.out
              clear HA
              simp only [gonglaw01_OctetOne.j2] at H
              by_cases c57 : x59_49 = true
              · subst c57
                have H1 : (some false) = some r := by rw [if_pos rfl] at H; exact H
                clear H
                have H := H1
                clear H1
                obtain rfl := Option.some.inj H
                go_wp2
                go_ret
                exact ⟨by first | rfl | (simp [errW_none, errW_some] <;> rfl) | (simp [*, errW_none, errW_some] <;> rfl), by repeat (first | (with_reducible first | exact HB.out | apply below_alloc | apply pw_below_drewN | apply below_drew1) | exact HB.out)⟩
              · replace c57 := Bool.eq_false_iff.mpr c57
                subst c57
                have H1 : ((octet_Groups.f (Go.bits .and .i64 a1 9223372036854775807)).bind fun bt162 => ((octet_Groups.f (Go.bits .and .i64 a2 9223372036854775807)).bind fun bt164 => (if (bt162.1.size : Int) ≤ (bt164.1.size : Int) then (if 0 ≤ (bt162.1.size : Int) then (if bt162.2 = 0 then (if bt164.2 = 0 then (some (((bt164.1.extract 0 ((bt162.1.size : Int) : Int).toNat).toList == bt162.1.toList) == ((Go.bits .and .i64 a1 9223372036854775807) == (Go.bits .and .i64 a2 9223372036854775807)))) else (some false)) else (some false)) else (none)) else (if bt162.2 = 0 then (if bt164.2 = 0 then (some (false == ((Go.bits .and .i64 a1 9223372036854775807) == (Go.bits .and .i64 a2 9223372036854775807)))) else (some false)) else (some false))))) = some r := by rw [if_neg (show ¬ (false = true) by decide)] at H; exact H
                clear H
                have H := H1
                clear H1
                replace H := Option.bind_eq_some_iff.mp H
                obtain ⟨⟨t162, t163⟩, A580, H⟩ := H
                replace H : ((octet_Groups.f (Go.bits .and .i64 a2 9223372036854775807)).bind fun bt164 => (if (t162.size : Int) ≤ (bt164.1.size : Int) then (if 0 ≤ (t162.size : Int) then (if t163 = 0 then (if bt164.2 = 0 then (some (((bt164.1.extract 0 ((t162.size : Int) : Int).toNat).toList == t162.toList) == ((Go.bits .and .i64 a1 9223372036854775807) == (Go.bits .and .i64 a2 9223372036854775807)))) else (some false)) else (some false)) else (none)) else (if t163 = 0 then (if bt164.2 = 0 then (some (false == ((Go.bits .and .i64 a1 9223372036854775807) == (Go.bits .and .i64 a2 9223372036854775807)))) else (some false)) else (some false)))) = some r := H
                have A58 := Aside0.mk A580
                clear A580
                replace H := Option.bind_eq_some_iff.mp H
                obtain ⟨⟨t164, t165⟩, A590, H⟩ := H
                replace H : (if (t162.size : Int) ≤ (t164.size : Int) then (if 0 ≤ (t162.size : Int) then (if t163 = 0 then (if t165 = 0 then (some (((t164.extract 0 ((t162.size : Int) : Int).toNat).toList == t162.toList) == ((Go.bits .and .i64 a1 9223372036854775807) == (Go.bits .and .i64 a2 9223372036854775807)))) else (some false)) else (some false)) else (none)) else (if t163 = 0 then (if t165 = 0 then (some (false == ((Go.bits .and .i64 a1 9223372036854775807) == (Go.bits .and .i64 a2 9223372036854775807)))) else (some false)) else (some false))) = some r := H
                have A59 := Aside0.mk A590
                clear A590
                by_cases c60 : (t162.size : Int) ≤ (t164.size : Int)
                · rw [if_pos c60] at H
                  have c60b0 : decide ((t162.size : Int) ≤ (t164.size : Int)) = true := decide_eq_true c60
                  have c60b1 : decide (t162.size ≤ t164.size) = true := decide_eq_true (Int.ofNat_le.mp c60)
                  clear c60
                  by_cases c61 : 0 ≤ (t162.size : Int)
                  · rw [if_pos c61] at H
                    have c61b0 := eq_true c61
                    have c61b1 : decide (0 ≤ (t162.size : Int)) = true := decide_eq_true c61
                    clear c61
                    have c62b0 := eq_true (of_decide_eq_true (by first | (with_reducible assumption) | assumption) : (t162.size : Int) ≤ (t164.size : Int))
                    by_cases c63 : t163 = 0
                    · rw [if_pos c63] at H
                      have c63b0 : (t163 == 0) = true := beq_iff_eq.mpr c63
                      have c63b1 : (t163 != 0) = false := bne_eq_false_iff_eq.mpr c63
                      clear c63
                      by_cases c64 : t165 = 0
                      · rw [if_pos c64] at H
                        have c64b0 : (t165 == 0) = true := beq_iff_eq.mpr c64
                        have c64b1 : (t165 != 0) = false := bne_eq_false_iff_eq.mpr c64
                        clear c64
                        obtain rfl := Option.some.inj H
                        go_wp2_with (first | ((with_reducible refine gate_callee (f := 9) rfl ?_); refine goesL_ (some 66) rfl rfl Try.func9 (by kernel_rfl) rfl #[.int .i64 (Go.bits .and .i64 a1 9223372036854775807)] rfl (by (try simp only [List.map_toArray, List.map_cons, List.map_nil]); first | done | rfl | (simp only [List.length_drop, List.length_take]; rfl)) ?_; (with_reducible refine (octet_Groups.calls (Go.bits .and .i64 a1 9223372036854775807) t162 t163 _ A58.out).mono ?_); rintro e w65 ⟨rfl, hb⟩; refine ⟨_, rfl, ?_⟩; have n0_ := Aside0.mk (below_step (by repeat (first | (with_reducible first | exact HB.out | apply below_alloc | apply pw_below_drewN | apply below_drew1) | exact HB.out)) hb); clear HB; have HB := n0_; clear n0_; (try clear hb); (try clear hb2); (try clear hk); (try clear hi)) | ((with_reducible refine gate_callee (f := 9) rfl ?_); refine goesL_ (some 71) rfl rfl Try.func9 (by kernel_rfl) rfl #[.int .i64 (Go.bits .and .i64 a2 9223372036854775807)] rfl (by (try simp only [List.map_toArray, List.map_cons, List.map_nil]); first | done | rfl | (simp only [List.length_drop, List.length_take]; rfl)) ?_; (with_reducible refine (octet_Groups.calls (Go.bits .and .i64 a2 9223372036854775807) t164 t165 _ A59.out).mono ?_); rintro e w66 ⟨rfl, hb⟩; refine ⟨_, rfl, ?_⟩; have n0_ := Aside0.mk (below_step (by repeat (first | (with_reducible first | exact HB.out | apply below_alloc | apply pw_below_drewN | apply below_drew1) | exact HB.out)) hb); clear HB; have HB := n0_; clear n0_; (try clear hb); (try clear hb2); (try clear hk); (try clear hi)))
                        go_ret
                        exact ⟨by first | rfl | (simp [errW_none, errW_some] <;> rfl) | (simp [*, errW_none, errW_some] <;> rfl), by repeat (first | (with_reducible first | exact HB.out | apply below_alloc | apply pw_below_drewN | apply below_drew1) | exact HB.out)⟩
                      · rw [if_neg c64] at H
                        have c64b0 : (t165 == 0) = false := beq_eq_false_iff_ne.mpr c64
                        have c64b1 : (t165 != 0) = true := bne_iff_ne.mpr c64
                        obtain rfl := Option.some.inj H
                        go_wp2_with (first | ((with_reducible refine gate_callee (f := 9) rfl ?_); refine goesL_ (some 66) rfl rfl Try.func9 (by kernel_rfl) rfl #[.int .i64 (Go.bits .and .i64 a1 9223372036854775807)] rfl (by (try simp only [List.map_toArray, List.map_cons, List.map_nil]); first | done | rfl | (simp only [List.length_drop, List.length_take]; rfl)) ?_; (with_reducible refine (octet_Groups.calls (Go.bits .and .i64 a1 9223372036854775807) t162 t163 _ A58.out).mono ?_); rintro e w67 ⟨rfl, hb⟩; refine ⟨_, rfl, ?_⟩; have n0_ := Aside0.mk (below_step (by repeat (first | (with_reducible first | exact HB.out | apply below_alloc | apply pw_below_drewN | apply below_drew1) | exact HB.out)) hb); clear HB; have HB := n0_; clear n0_; (try clear hb); (try clear hb2); (try clear hk); (try clear hi)) | ((with_reducible refine gate_callee (f := 9) rfl ?_); refine goesL_ (some 71) rfl rfl Try.func9 (by kernel_rfl) rfl #[.int .i64 (Go.bits .and .i64 a2 9223372036854775807)] rfl (by (try simp only [List.map_toArray, List.map_cons, List.map_nil]); first | done | rfl | (simp only [List.length_drop, List.length_take]; rfl)) ?_; (with_reducible refine (octet_Groups.calls (Go.bits .and .i64 a2 9223372036854775807) t164 t165 _ A59.out).mono ?_); rintro e w68 ⟨rfl, hb⟩; refine ⟨_, rfl, ?_⟩; have n0_ := Aside0.mk (below_step (by repeat (first | (with_reducible first | exact HB.out | apply below_alloc | apply pw_below_drewN | apply below_drew1) | exact HB.out)) hb); clear HB; have HB := n0_; clear n0_; (try clear hb); (try clear hb2); (try clear hk); (try clear hi)))
                        go_ret
                        exact ⟨by first | rfl | (simp [errW_none, errW_some] <;> rfl) | (simp [*, errW_none, errW_some] <;> rfl), by repeat (first | (with_reducible first | exact HB.out | apply below_alloc | apply pw_below_drewN | apply below_drew1) | exact HB.out)⟩
                    · rw [if_neg c63] at H
                      have c63b0 : (t163 == 0) = false := beq_eq_false_iff_ne.mpr c63
                      have c63b1 : (t163 != 0) = true := bne_iff_ne.mpr c63
                      obtain rfl := Option.some.inj H
                      go_wp2_with (first | ((with_reducible refine gate_callee (f := 9) rfl ?_); refine goesL_ (some 66) rfl rfl Try.func9 (by kernel_rfl) rfl #[.int .i64 (Go.bits .and .i64 a1 9223372036854775807)] rfl (by (try simp only [List.map_toArray, List.map_cons, List.map_nil]); first | done | rfl | (simp only [List.length_drop, List.length_take]; rfl)) ?_; (with_reducible refine (octet_Groups.calls (Go.bits .and .i64 a1 9223372036854775807) t162 t163 _ A58.out).mono ?_); rintro e w69 ⟨rfl, hb⟩; refine ⟨_, rfl, ?_⟩; have n0_ := Aside0.mk (below_step (by repeat (first | (with_reducible first | exact HB.out | apply below_alloc | apply pw_below_drewN | apply below_drew1) | exact HB.out)) hb); clear HB; have HB := n0_; clear n0_; (try clear hb); (try clear hb2); (try clear hk); (try clear hi)) | ((with_reducible refine gate_callee (f := 9) rfl ?_); refine goesL_ (some 71) rfl rfl Try.func9 (by kernel_rfl) rfl #[.int .i64 (Go.bits .and .i64 a2 9223372036854775807)] rfl (by (try simp only [List.map_toArray, List.map_cons, List.map_nil]); first | done | rfl | (simp only [List.length_drop, List.length_take]; rfl)) ?_; (with_reducible refine (octet_Groups.calls (Go.bits .and .i64 a2 9223372036854775807) t164 t165 _ A59.out).mono ?_); rintro e w70 ⟨rfl, hb⟩; refine ⟨_, rfl, ?_⟩; have n0_ := Aside0.mk (below_step (by repeat (first | (with_reducible first | exact HB.out | apply below_alloc | apply pw_below_drewN | apply below_drew1) | exact HB.out)) hb); clear HB; have HB := n0_; clear n0_; (try clear hb); (try clear hb2); (try clear hk); (try clear hi)))
                      go_ret
                      exact ⟨by first | rfl | (simp [errW_none, errW_some] <;> rfl) | (simp [*, errW_none, errW_some] <;> rfl), by repeat (first | (with_reducible first | exact HB.out | apply below_alloc | apply pw_below_drewN | apply below_drew1) | exact HB.out)⟩
                  · rw [if_neg c61] at H
                    exact absurd H (by simp)
                · rw [if_neg c60] at H
                  have c60b0 : decide ((t162.size : Int) ≤ (t164.size : Int)) = false := decide_eq_false c60
                  have c60b1 : decide (t162.size ≤ t164.size) = false := decide_eq_false (fun h => c60 (Int.ofNat_le.mpr h))
                  clear c60
                  by_cases c71 : t163 = 0
                  · rw [if_pos c71] at H
                    have c71b0 : (t163 == 0) = true := beq_iff_eq.mpr c71
                    have c71b1 : (t163 != 0) = false := bne_eq_false_iff_eq.mpr c71
                    clear c71
                    by_cases c72 : t165 = 0
                    · rw [if_pos c72] at H
                      have c72b0 : (t165 == 0) = true := beq_iff_eq.mpr c72
                      have c72b1 : (t165 != 0) = false := bne_eq_false_iff_eq.mpr c72
                      clear c72
                      obtain rfl := Option.some.inj H
                      go_wp2_with (first | ((with_reducible refine gate_callee (f := 9) rfl ?_); refine goesL_ (some 66) rfl rfl Try.func9 (by kernel_rfl) rfl #[.int .i64 (Go.bits .and .i64 a1 9223372036854775807)] rfl (by (try simp only [List.map_toArray, List.map_cons, List.map_nil]); first | done | rfl | (simp only [List.length_drop, List.length_take]; rfl)) ?_; (with_reducible refine (octet_Groups.calls (Go.bits .and .i64 a1 9223372036854775807) t162 t163 _ A58.out).mono ?_); rintro e w73 ⟨rfl, hb⟩; refine ⟨_, rfl, ?_⟩; have n0_ := Aside0.mk (below_step (by repeat (first | (with_reducible first | exact HB.out | apply below_alloc | apply pw_below_drewN | apply below_drew1) | exact HB.out)) hb); clear HB; have HB := n0_; clear n0_; (try clear hb); (try clear hb2); (try clear hk); (try clear hi)) | ((with_reducible refine gate_callee (f := 9) rfl ?_); refine goesL_ (some 71) rfl rfl Try.func9 (by kernel_rfl) rfl #[.int .i64 (Go.bits .and .i64 a2 9223372036854775807)] rfl (by (try simp only [List.map_toArray, List.map_cons, List.map_nil]); first | done | rfl | (simp only [List.length_drop, List.length_take]; rfl)) ?_; (with_reducible refine (octet_Groups.calls (Go.bits .and .i64 a2 9223372036854775807) t164 t165 _ A59.out).mono ?_); rintro e w74 ⟨rfl, hb⟩; refine ⟨_, rfl, ?_⟩; have n0_ := Aside0.mk (below_step (by repeat (first | (with_reducible first | exact HB.out | apply below_alloc | apply pw_below_drewN | apply below_drew1) | exact HB.out)) hb); clear HB; have HB := n0_; clear n0_; (try clear hb); (try clear hb2); (try clear hk); (try clear hi)))
                      go_ret
                      exact ⟨by first | rfl | (simp [errW_none, errW_some] <;> rfl) | (simp [*, errW_none, errW_some] <;> rfl), by repeat (first | (with_reducible first | exact HB.out | apply below_alloc | apply pw_below_drewN | apply below_drew1) | exact HB.out)⟩
                    · rw [if_neg c72] at H
                      have c72b0 : (t165 == 0) = false := beq_eq_false_iff_ne.mpr c72
                      have c72b1 : (t165 != 0) = true := bne_iff_ne.mpr c72
                      obtain rfl := Option.some.inj H
                      go_wp2_with (first | ((with_reducible refine gate_callee (f := 9) rfl ?_); refine goesL_ (some 66) rfl rfl Try.func9 (by kernel_rfl) rfl #[.int .i64 (Go.bits .and .i64 a1 9223372036854775807)] rfl (by (try simp only [List.map_toArray, List.map_cons, List.map_nil]); first | done | rfl | (simp only [List.length_drop, List.length_take]; rfl)) ?_; (with_reducible refine (octet_Groups.calls (Go.bits .and .i64 a1 9223372036854775807) t162 t163 _ A58.out).mono ?_); rintro e w75 ⟨rfl, hb⟩; refine ⟨_, rfl, ?_⟩; have n0_ := Aside0.mk (below_step (by repeat (first | (with_reducible first | exact HB.out | apply below_alloc | apply pw_below_drewN | apply below_drew1) | exact HB.out)) hb); clear HB; have HB := n0_; clear n0_; (try clear hb); (try clear hb2); (try clear hk); (try clear hi)) | ((with_reducible refine gate_callee (f := 9) rfl ?_); refine goesL_ (some 71) rfl rfl Try.func9 (by kernel_rfl) rfl #[.int .i64 (Go.bits .and .i64 a2 9223372036854775807)] rfl (by (try simp only [List.map_toArray, List.map_cons, List.map_nil]); first | done | rfl | (simp only [List.length_drop, List.length_take]; rfl)) ?_; (with_reducible refine (octet_Groups.calls (Go.bits .and .i64 a2 9223372036854775807) t164 t165 _ A59.out).mono ?_); rintro e w76 ⟨rfl, hb⟩; refine ⟨_, rfl, ?_⟩; have n0_ := Aside0.mk (below_step (by repeat (first | (with_reducible first | exact HB.out | apply below_alloc | apply pw_below_drewN | apply below_drew1) | exact HB.out)) hb); clear HB; have HB := n0_; clear n0_; (try clear hb); (try clear hb2); (try clear hk); (try clear hi)))
                      go_ret
                      exact ⟨by first | rfl | (simp [errW_none, errW_some] <;> rfl) | (simp [*, errW_none, errW_some] <;> rfl), by repeat (first | (with_reducible first | exact HB.out | apply below_alloc | apply pw_below_drewN | apply below_drew1) | exact HB.out)⟩
                  · rw [if_neg c71] at H
                    have c71b0 : (t163 == 0) = false := beq_eq_false_iff_ne.mpr c71
                    have c71b1 : (t163 != 0) = true := bne_iff_ne.mpr c71
                    obtain rfl := Option.some.inj H
                    go_wp2_with (first | ((with_reducible refine gate_callee (f := 9) rfl ?_); refine goesL_ (some 66) rfl rfl Try.func9 (by kernel_rfl) rfl #[.int .i64 (Go.bits .and .i64 a1 9223372036854775807)] rfl (by (try simp only [List.map_toArray, List.map_cons, List.map_nil]); first | done | rfl | (simp only [List.length_drop, List.length_take]; rfl)) ?_; (with_reducible refine (octet_Groups.calls (Go.bits .and .i64 a1 9223372036854775807) t162 t163 _ A58.out).mono ?_); rintro e w77 ⟨rfl, hb⟩; refine ⟨_, rfl, ?_⟩; have n0_ := Aside0.mk (below_step (by repeat (first | (with_reducible first | exact HB.out | apply below_alloc | apply pw_below_drewN | apply below_drew1) | exact HB.out)) hb); clear HB; have HB := n0_; clear n0_; (try clear hb); (try clear hb2); (try clear hk); (try clear hi)) | ((with_reducible refine gate_callee (f := 9) rfl ?_); refine goesL_ (some 71) rfl rfl Try.func9 (by kernel_rfl) rfl #[.int .i64 (Go.bits .and .i64 a2 9223372036854775807)] rfl (by (try simp only [List.map_toArray, List.map_cons, List.map_nil]); first | done | rfl | (simp only [List.length_drop, List.length_take]; rfl)) ?_; (with_reducible refine (octet_Groups.calls (Go.bits .and .i64 a2 9223372036854775807) t164 t165 _ A59.out).mono ?_); rintro e w78 ⟨rfl, hb⟩; refine ⟨_, rfl, ?_⟩; have n0_ := Aside0.mk (below_step (by repeat (first | (with_reducible first | exact HB.out | apply below_alloc | apply pw_below_drewN | apply below_drew1) | exact HB.out)) hb); clear HB; have HB := n0_; clear n0_; (try clear hb); (try clear hb2); (try clear hk); (try clear hi)))
                    go_ret
                    exact ⟨by first | rfl | (simp [errW_none, errW_some] <;> rfl) | (simp [*, errW_none, errW_some] <;> rfl), by repeat (first | (with_reducible first | exact HB.out | apply below_alloc | apply pw_below_drewN | apply below_drew1) | exact HB.out)⟩

/-- THE ONE PURE STATEMENT of gonglaw01_OctetOne: yours. -/
def gonglaw01_OctetOne.Pure : Prop := ∀ (a0 : ByteArray) (a1 : Int) (a2 : Int), a0.size ≤ 140737488351232 → (Lit.int .i64 a1).wf = true → (Lit.int .i64 a2).wf = true → ∃ k, gonglaw01_OctetOne.f k a0 a1 a2 = some true
theorem gonglaw01_OctetOne.walk (P : gonglaw01_OctetOne.Pure) (a0 : ByteArray) (a1 : Int) (a2 : Int) (w : World) (w0 : a0.size ≤ 140737488351232) (w1 : (Lit.int .i64 a1).wf = true) (w2 : (Lit.int .i64 a2).wf = true) :
    Calls Try.prog 4 #[.string a0, .int .i64 a1, .int .i64 a2] w fun e w' => e = .returned (.bool true) ∧ Below w.heap.size w w' := by
  obtain ⟨k, h⟩ := P a0 a1 a2 w0 w1 w2
  refine (gonglaw01_OctetOne.calls k a0 a1 a2 true w h).mono ?_
  rintro e w' ⟨rfl, hd⟩
  exact ⟨rfl, hd⟩

/-! ### gongbook_Below: function 23 -/
def gongbook_Below.f (a0 : Int) (a1 : Int) : Option (Int) := if a1 = 0 then (none) else (some (Int.tmod (wrap64 ((Int.tmod a0 a1) + a1)) a1))
set_option maxHeartbeats 8000000 in
set_option maxRecDepth 100000 in
theorem gongbook_Below.calls (a0 : Int) (a1 : Int) (r : Int) (w : World) (h : gongbook_Below.f a0 a1 = some r) :
    Calls Try.prog 23 #[.int .i64 a0, .int .i64 a1] w fun e w' => e = .returned (.int .i64 r) ∧ Drawn0 w w' := by
  have H : (if a1 = 0 then (none) else (some (Int.tmod (wrap64 ((Int.tmod a0 a1) + a1)) a1))) = some r := h
  clear h
  by_cases c3 : a1 = 0
  · rw [if_pos c3] at H
    exact absurd H (by simp)
  · rw [if_neg c3] at H
    have c3b0 : (a1 == 0) = false := beq_eq_false_iff_ne.mpr c3
    have c3b1 : (a1 != 0) = true := bne_iff_ne.mpr c3
    obtain rfl := Option.some.inj H
    go_enter Try.func23, Try.ntmps23
    go_wp2
    go_ret
    exact ⟨by first | rfl | (simp; done) | (simp [*]; done), by repeat (first | exact Drawn0.refl _ | apply Drawn0.step)⟩

end Go.Proofs.Ytbeegnajghkhoaa.Px
