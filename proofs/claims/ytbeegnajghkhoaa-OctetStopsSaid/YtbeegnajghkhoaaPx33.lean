-- Laid by wip/hprint.py: the kit's print of the translation, turned in places, beside contracts that this session wrote by hand; Lean checks all of it.
import Derived.Test.YtbeegnajghkhoaaPx0
import Derived.Test.YtbeegnajghkhoaaPx3
import Derived.Test.YtbeegnajghkhoaaPx12
import Derived.Test.YtbeegnajghkhoaaPx13
import Derived.Test.YtbeegnajghkhoaaPx15
import Derived.Test.YtbeegnajghkhoaaPx16
import Derived.Test.YtbeegnajghkhoaaPx17
import Derived.Test.YtbeegnajghkhoaaPx19
import Derived.Test.YtbeegnajghkhoaaPx20
import Derived.Test.YtbeegnajghkhoaaPx21
import Derived.Test.YtbeegnajghkhoaaPx22
import Derived.Test.YtbeegnajghkhoaaPx30
namespace Go.Proofs.Ytbeegnajghkhoaa.Px
open Go.RowKit Go.Proofs.YtbeegnajghkhoaaW.PrintWords Go.Proofs.YtbeegnajghkhoaaW.PrintLast Go.Proofs.YtbeegnajghkhoaaW.PrintMore
attribute [local go_sem] max2_int min2_int max_two min_two max_three min_three max_four min_four   -- for this text's walks alone
set_option linter.unusedVariables false
set_option linter.unusedSimpArgs false

/-! ### gonglaw01_OctetStops: function 6 -/
mutual
def gonglaw01_OctetStops.l0 : Nat → ByteArray → List (S41) → Int → Int → Int → ByteArray → Int → Option (Bool)
  | 0, _, _, _, _, _, _, _ => none
  | k + 1, x0, x2, x8, x9, x10, x199000, x199001 => if x10 < (x2.length : Int) then (gonglaw01_OctetStops.j1 k x0 x2 x8 x9 x10 (decide (x10 < 40)) x199000 x199001) else (gonglaw01_OctetStops.j1 k x0 x2 x8 x9 x10 false x199000 x199001)
def gonglaw01_OctetStops.j1 : Nat → ByteArray → List (S41) → Int → Int → Int → Bool → ByteArray → Int → Option (Bool)
  | 0, _, _, _, _, _, _, _, _ => none
  | k + 1, x0, x2, x8, x9, x10, x33, x199000, x199001 => if x33 = true then (if 0 ≤ x10 then (if x10 < (x2.length : Int) then ((octet_Reader_Groups.f k x199000 x199001 ((rd_T41 x2 x10).f1)).bind fun bt215 => (if bt215.1 = 0 then ((octet_Reader_Wide.f bt215.2.1 bt215.2.2 ((rd_T41 x2 x10).f1)).bind fun bt218 => (if bt218.1 = 0 then ((octet_Reader_Text.f bt218.2.1 bt218.2.2 ((rd_T41 x2 x10).f1)).bind fun bt221 => (if bt221.1.toList = ([] : List UInt8) then ((octet_Reader_Bytes.f bt221.2.1 bt221.2.2 ((rd_T41 x2 x10).f1)).bind fun bt224 => (if bt224.1.toList = ([] : List UInt8) then ((octet_Reader_Refuse.f bt224.2.1 bt224.2.2 10).bind fun bt227 => (gonglaw01_OctetStops.l0 k x0 x2 x8 x9 (wrap64 (x10 + 1)) bt227.1 bt227.2)) else (some false))) else (some false))) else (some false))) else (some false))) else (none)) else (none)) else ((octet_Reader_Left.f x199000 x199001).bind fun bt205 => (if bt205.1 = x9 then (if x9 = (x0.size : Int) then ((octet_Reader_Code.f bt205.2.1 bt205.2.2).bind fun bt208 => (if bt208.1 = x8 then ((octet_Reader_Done.f bt208.2.1 bt208.2.2).bind fun bt211 => (some (bt211.1 == x8))) else (some false))) else (some false)) else (some false)))
end
def gonglaw01_OctetStops.f (k : Nat) (a0 : ByteArray) (a1 : Int) (l2 : List (S41)) : Option (Bool) := (gonglaw01_works.f).bind fun t195 => (if t195 = true then ((octet_Read.f a0).bind fun bt196 => ((gongbook_Below.f a1 300).bind fun t199 => ((octet_Reader_Refuse.f bt196.1 bt196.2 (wrap64 (1 + t199))).bind fun bt200 => ((octet_Reader_Left.f bt200.1 bt200.2).bind fun bt202 => (gonglaw01_OctetStops.l0 k a0 l2 (wrap64 (1 + t199)) bt202.1 0 bt202.2.1 bt202.2.2))))) else (some false))
theorem gonglaw01_OctetStops.mono_l : ∀ k, (∀ y0 y1 y2 y3 y4 y5 y6, LeO (gonglaw01_OctetStops.l0 k y0 y1 y2 y3 y4 y5 y6) (gonglaw01_OctetStops.l0 (k + 1) y0 y1 y2 y3 y4 y5 y6)) ∧ (∀ y0 y1 y2 y3 y4 y5 y6 y7, LeO (gonglaw01_OctetStops.j1 k y0 y1 y2 y3 y4 y5 y6 y7) (gonglaw01_OctetStops.j1 (k + 1) y0 y1 y2 y3 y4 y5 y6 y7))
  | 0 => ⟨fun _ _ _ _ _ _ _ r h => by simp [gonglaw01_OctetStops.l0] at h, fun _ _ _ _ _ _ _ _ r h => by simp [gonglaw01_OctetStops.j1] at h⟩
  | k + 1 => by
    obtain ⟨ih0, ih1⟩ := gonglaw01_OctetStops.mono_l k
    refine ⟨?_, ?_⟩
    · intro y0 y1 y2 y3 y4 y5 y6
      unfold gonglaw01_OctetStops.l0
      repeat' first
      | (with_reducible exact ih0 _ _ _ _ _ _ _)
      | (with_reducible exact ih1 _ _ _ _ _ _ _ _)
      | (with_reducible exact octet_Reader_Groups.mono _ _ _ _)
      | (with_reducible exact LeO.refl _)
      | (with_reducible exact LeO.none _)
      | (with_reducible refine LeO.ite ?_ ?_)
      | (with_reducible refine LeO.bind ?_ (fun _ => ?_))
      | exact ih0 _ _ _ _ _ _ _
      | exact ih1 _ _ _ _ _ _ _ _
      | exact octet_Reader_Groups.mono _ _ _ _
      | exact LeO.none _
      | refine LeO.ite ?_ ?_
      | refine LeO.bind ?_ (fun _ => ?_)
    · intro y0 y1 y2 y3 y4 y5 y6 y7
      unfold gonglaw01_OctetStops.j1
      repeat' first
      | (with_reducible exact ih0 _ _ _ _ _ _ _)
      | (with_reducible exact ih1 _ _ _ _ _ _ _ _)
      | (with_reducible exact octet_Reader_Groups.mono _ _ _ _)
      | (with_reducible exact LeO.refl _)
      | (with_reducible exact LeO.none _)
      | (with_reducible refine LeO.ite ?_ ?_)
      | (with_reducible refine LeO.bind ?_ (fun _ => ?_))
      | exact ih0 _ _ _ _ _ _ _
      | exact ih1 _ _ _ _ _ _ _ _
      | exact octet_Reader_Groups.mono _ _ _ _
      | exact LeO.none _
      | refine LeO.ite ?_ ?_
      | refine LeO.bind ?_ (fun _ => ?_)
theorem gonglaw01_OctetStops.mono : ∀ a0 a1 a2 k, LeO (gonglaw01_OctetStops.f k a0 a1 a2) (gonglaw01_OctetStops.f (k + 1) a0 a1 a2) := by
  intro a0 a1 a2 k
  obtain ⟨ih0, ih1⟩ := gonglaw01_OctetStops.mono_l k
  unfold gonglaw01_OctetStops.f
  repeat' first
      | (with_reducible exact ih0 _ _ _ _ _ _ _)
      | (with_reducible exact ih1 _ _ _ _ _ _ _ _)
      | (with_reducible exact octet_Reader_Groups.mono _ _ _ _)
      | (with_reducible exact LeO.refl _)
      | (with_reducible exact LeO.none _)
      | (with_reducible refine LeO.ite ?_ ?_)
      | (with_reducible refine LeO.bind ?_ (fun _ => ?_))
      | exact ih0 _ _ _ _ _ _ _
      | exact ih1 _ _ _ _ _ _ _ _
      | exact octet_Reader_Groups.mono _ _ _ _
      | exact LeO.none _
      | refine LeO.ite ?_ ?_
      | refine LeO.bind ?_ (fun _ => ?_)
set_option maxHeartbeats 8000000 in
set_option maxRecDepth 100000 in
theorem gonglaw01_OctetStops.calls (k : Nat) (a0 : ByteArray) (a1 : Int) (A2 : Option Addr) (c2 : Nat) (l2 : List (S41)) (r : Bool) (w : World) (hr2 : Kd.C k41 w A2 l2.length l2) (hc2 : l2.length ≤ c2) (h : gonglaw01_OctetStops.f k a0 a1 l2 = some r) :
    Calls Try.prog 6 #[.string a0, .int .i64 a1, .slice A2 l2.length c2] w fun e w' => e = .returned (.bool r) ∧ Below w.heap.size w w' := by
  have HR2 := Aside0.mk hr2
  have HC2 := Aside0.mk hc2
  clear hr2 hc2
  have HB := Aside0.mk (Below.refl w.heap.size w)
  have H : ((gonglaw01_works.f).bind fun t195 => (if t195 = true then ((octet_Read.f a0).bind fun bt196 => ((gongbook_Below.f a1 300).bind fun t199 => ((octet_Reader_Refuse.f bt196.1 bt196.2 (wrap64 (1 + t199))).bind fun bt200 => ((octet_Reader_Left.f bt200.1 bt200.2).bind fun bt202 => (gonglaw01_OctetStops.l0 k a0 l2 (wrap64 (1 + t199)) bt202.1 0 bt202.2.1 bt202.2.2))))) else (some false))) = some r := h
  clear h
  replace H := Option.bind_eq_some_iff.mp H
  obtain ⟨t195, A40, H⟩ := H
  replace H : (if t195 = true then ((octet_Read.f a0).bind fun bt196 => ((gongbook_Below.f a1 300).bind fun t199 => ((octet_Reader_Refuse.f bt196.1 bt196.2 (wrap64 (1 + t199))).bind fun bt200 => ((octet_Reader_Left.f bt200.1 bt200.2).bind fun bt202 => (gonglaw01_OctetStops.l0 k a0 l2 (wrap64 (1 + t199)) bt202.1 0 bt202.2.1 bt202.2.2))))) else (some false)) = some r := H
  have A4 := Aside0.mk A40
  clear A40
  by_cases c5 : t195 = true
  · subst c5
    have H1 : ((octet_Read.f a0).bind fun bt196 => ((gongbook_Below.f a1 300).bind fun t199 => ((octet_Reader_Refuse.f bt196.1 bt196.2 (wrap64 (1 + t199))).bind fun bt200 => ((octet_Reader_Left.f bt200.1 bt200.2).bind fun bt202 => (gonglaw01_OctetStops.l0 k a0 l2 (wrap64 (1 + t199)) bt202.1 0 bt202.2.1 bt202.2.2))))) = some r := by rw [if_pos rfl] at H; exact H
    clear H
    have H := H1
    clear H1
    replace H := Option.bind_eq_some_iff.mp H
    obtain ⟨⟨t196, t197⟩, A60, H⟩ := H
    replace H : ((gongbook_Below.f a1 300).bind fun t199 => ((octet_Reader_Refuse.f t196 t197 (wrap64 (1 + t199))).bind fun bt200 => ((octet_Reader_Left.f bt200.1 bt200.2).bind fun bt202 => (gonglaw01_OctetStops.l0 k a0 l2 (wrap64 (1 + t199)) bt202.1 0 bt202.2.1 bt202.2.2)))) = some r := H
    have A6 := Aside0.mk A60
    clear A60
    replace H := Option.bind_eq_some_iff.mp H
    obtain ⟨t199, A70, H⟩ := H
    replace H : ((octet_Reader_Refuse.f t196 t197 (wrap64 (1 + t199))).bind fun bt200 => ((octet_Reader_Left.f bt200.1 bt200.2).bind fun bt202 => (gonglaw01_OctetStops.l0 k a0 l2 (wrap64 (1 + t199)) bt202.1 0 bt202.2.1 bt202.2.2))) = some r := H
    have A7 := Aside0.mk A70
    clear A70
    replace H := Option.bind_eq_some_iff.mp H
    obtain ⟨⟨t200, t201⟩, A80, H⟩ := H
    replace H : ((octet_Reader_Left.f t200 t201).bind fun bt202 => (gonglaw01_OctetStops.l0 k a0 l2 (wrap64 (1 + t199)) bt202.1 0 bt202.2.1 bt202.2.2)) = some r := H
    have A8 := Aside0.mk A80
    clear A80
    replace H := Option.bind_eq_some_iff.mp H
    obtain ⟨⟨t202, t203, t204⟩, A90, H⟩ := H
    replace H : (gonglaw01_OctetStops.l0 k a0 l2 (wrap64 (1 + t199)) t202 0 t203 t204) = some r := H
    have A9 := Aside0.mk A90
    clear A90
    have H' := Aside0.mk H
    clear H
    go_enter Try.func6, Try.ntmps6
    go_wp2_with (first | ((with_reducible refine gate_callee (f := 8) rfl ?_); refine goesL_ (some 12) rfl rfl Try.func8 (by kernel_rfl) rfl #[] rfl (by (try simp only [List.map_toArray, List.map_cons, List.map_nil]); first | done | rfl | (simp only [List.length_drop, List.length_take]; rfl)) ?_; (with_reducible refine (gonglaw01_works.calls  true _ A4.out).mono ?_); rintro e w10 ⟨rfl, hb⟩; refine ⟨_, rfl, ?_⟩; have n0_ := Aside0.mk (below_step (by repeat (first | (with_reducible first | exact HB.out | apply below_alloc | apply pw_below_drewN | apply below_drew1) | exact HB.out)) hb); clear HB; have HB := n0_; clear n0_; (try clear hb); (try clear hb2); (try clear hk); (try clear hi)) | ((with_reducible refine gate_callee (f := 15) rfl ?_); refine goesL_ (some 15) rfl rfl Try.func15 (by kernel_rfl) rfl #[.string a0] rfl (by (try simp only [List.map_toArray, List.map_cons, List.map_nil]); first | done | rfl | (simp only [List.length_drop, List.length_take]; rfl)) ?_; (with_reducible refine (octet_Read.calls a0 t196 t197 w _ ?side1 A6.out).mono ?_); (case side1 => repeat (first | (with_reducible first | exact HB.out | apply below_alloc | apply pw_below_drewN | apply below_drew1) | exact HB.out)); rintro e w11 ⟨g198, rfl, hi, hb, hb2⟩; refine ⟨_, rfl, ?_⟩; have n0_ := Aside0.mk (hb); have n1_ := Aside0.mk (hi); clear HB; have HB := n0_; have HI198 := n1_; clear n0_ n1_; (try clear hb); (try clear hb2); (try clear hk); (try clear hi)) | ((with_reducible refine gate_callee (f := 23) rfl ?_); refine goesL_ (some 19) rfl rfl Try.func23 (by kernel_rfl) rfl #[.int .i64 a1, .int .i64 300] rfl (by (try simp only [List.map_toArray, List.map_cons, List.map_nil]); first | done | rfl | (simp only [List.length_drop, List.length_take]; rfl)) ?_; (with_reducible refine (gongbook_Below.calls a1 300 t199 _ A7.out).mono ?_); rintro e w' ⟨rfl, ⟨nd, rfl⟩⟩; refine ⟨_, rfl, ?_⟩) | ((with_reducible refine gate_callee (f := 24) rfl ?_); refine goesL_ (some 23) rfl rfl Try.func24 (by kernel_rfl) rfl #[.pointer (some ⟨g198, 0, none⟩), .int .i64 (wrap64 (1 + t199))] rfl (by (try simp only [List.map_toArray, List.map_cons, List.map_nil]); first | done | rfl | (simp only [List.length_drop, List.length_take]; rfl)) ?_; (with_reducible refine (octet_Reader_Refuse.calls g198 t196 t197 (wrap64 (1 + t199)) t200 t201 w _ ?side1 ?side2 A8.out).mono ?_); (case side1 => repeat (first | (with_reducible first | exact HI198.out | apply IsS59.alloc | apply IsS59.drewN | apply IsS59.drew | apply IsS59.set_0 | apply IsS59.set_1) | exact HI198.out)); (case side2 => repeat (first | (with_reducible first | exact HB.out | apply below_alloc | apply pw_below_drewN | apply below_drew1 | refine below_set ?_ (IsS59.ge HI198.out)) | exact HB.out)); rintro e w12 ⟨rfl, hi, hb, hk⟩; refine ⟨_, rfl, ?_⟩; have n0_ := Aside0.mk (hb); have n1_ := Aside0.mk (hi); clear HB; clear HI198; have HB := n0_; have HI198 := n1_; clear n0_ n1_; (try clear hb); (try clear hb2); (try clear hk); (try clear hi)) | ((with_reducible refine gate_callee (f := 18) rfl ?_); refine goesL_ (some 25) rfl rfl Try.func18 (by kernel_rfl) rfl #[.pointer (some ⟨g198, 0, none⟩)] rfl (by (try simp only [List.map_toArray, List.map_cons, List.map_nil]); first | done | rfl | (simp only [List.length_drop, List.length_take]; rfl)) ?_; (with_reducible refine (octet_Reader_Left.calls g198 t200 t201 t202 t203 t204 w _ ?side1 ?side2 A9.out).mono ?_); (case side1 => repeat (first | (with_reducible first | exact HI198.out | apply IsS59.alloc | apply IsS59.drewN | apply IsS59.drew | apply IsS59.set_0 | apply IsS59.set_1) | exact HI198.out)); (case side2 => repeat (first | (with_reducible first | exact HB.out | apply below_alloc | apply pw_below_drewN | apply below_drew1 | refine below_set ?_ (IsS59.ge HI198.out)) | exact HB.out)); rintro e w13 ⟨rfl, hi, hb, hk⟩; refine ⟨_, rfl, ?_⟩; have n0_ := Aside0.mk (hb); have n1_ := Aside0.mk (hi); clear HB; clear HI198; have HB := n0_; have HI198 := n1_; clear n0_ n1_; (try clear hb); (try clear hb2); (try clear hk); (try clear hi)))
    go_loopg [10] k (fun kq v10 w' => ∃ (x10_1 : Int) (x199000_1 : ByteArray) (x199001_1 : Int), v10 = .int .i64 x10_1 ∧ Aside0 (gonglaw01_OctetStops.l0 kq a0 l2 (wrap64 (1 + t199)) t202 x10_1 x199000_1 x199001_1 = some r) ∧ Aside0 (kq ≤ k) ∧ Aside0 (IsS59 w w' g198 x199000_1 x199001_1) ∧ Aside0 (Below w.heap.size w w'))
    case atStart => exact ⟨(0), (t203), (t204), (by first | rfl | (simp; done) | (simp [*]; done)), H', ⟨Nat.le_refl _⟩, ⟨by repeat (first | (with_reducible first | exact HI198.out | apply IsS59.alloc | apply IsS59.drewN | apply IsS59.drew | apply IsS59.set_0 | apply IsS59.set_1) | exact HI198.out)⟩, ⟨by repeat (first | (with_reducible first | exact HB.out | apply below_alloc | apply pw_below_drewN | apply below_drew1 | refine below_set ?_ (IsS59.ge HI198.out)) | exact HB.out)⟩⟩
    case round =>
      clear H'
      try clear c1
      try clear c2
      try clear p2
      try clear c5
      try clear c6
      try clear p6
      try clear c8
      obtain ⟨x10_1, x199000_1, x199001_1, rfl, HA, HK1, HI198, HB⟩ := hrel
      cases gk with
      | zero => exact absurd HA.out (by simp [gonglaw01_OctetStops.l0])
      | succ k1 =>
        have H := HA.out
        clear HA
        simp only [gonglaw01_OctetStops.l0] at H
        have HC14 := Aside0.mk H
        clear H
        go_upto_region 10 with (fail)
        go_cut [33] (fun v33 wc => ∃ (kq : Nat) (x33_13 : Bool), v33 = .bool x33_13 ∧ Aside0 (gonglaw01_OctetStops.j1 kq a0 l2 (wrap64 (1 + t199)) t202 x10_1 x33_13 x199000_1 x199001_1 = some r) ∧ Aside0 (kq ≤ k1) ∧ Aside0 (IsS59 w wc g198 x199000_1 x199001_1) ∧ Aside0 (Below w.heap.size w wc))
        case first =>
          have H := HC14.out
          clear HC14
          by_cases c15 : x10_1 < (l2.length : Int)
          · rw [if_pos c15] at H
            have c15b0 : decide (x10_1 < (l2.length : Int)) = true := decide_eq_true c15
            clear c15
            (first | rw [c15b0] | (simp only [i64_w, i32_w]; rw [c15b0]) | skip)
            have H' := Aside0.mk H
            clear H
            go_wp2
            go_meet
            case rel => exact ⟨_, (decide (x10_1 < 40)), (by first | rfl | (simp; done) | (simp [*]; done)), H', ⟨by have := HK1.out; first | omega | exact Nat.le_refl _⟩, ⟨by repeat (first | (with_reducible first | exact HI198.out | apply IsS59.alloc | apply IsS59.drewN | apply IsS59.drew | apply IsS59.set_0 | apply IsS59.set_1) | exact HI198.out)⟩, ⟨by repeat (first | (with_reducible first | exact HB.out | apply below_alloc | apply pw_below_drewN | apply below_drew1 | refine below_set ?_ (IsS59.ge HI198.out)) | exact HB.out)⟩⟩
          · rw [if_neg c15] at H
            have c15b0 : decide (x10_1 < (l2.length : Int)) = false := decide_eq_false c15
            clear c15
            (first | rw [c15b0] | (simp only [i64_w, i32_w]; rw [c15b0]) | skip)
            have H' := Aside0.mk H
            clear H
            go_wp2
            go_meet
            case rel => exact ⟨_, (false), (by first | rfl | (simp; done) | (simp [*]; done)), H', ⟨by have := HK1.out; first | omega | exact Nat.le_refl _⟩, ⟨by repeat (first | (with_reducible first | exact HI198.out | apply IsS59.alloc | apply IsS59.drewN | apply IsS59.drew | apply IsS59.set_0 | apply IsS59.set_1) | exact HI198.out)⟩, ⟨by repeat (first | (with_reducible first | exact HB.out | apply below_alloc | apply pw_below_drewN | apply below_drew1 | refine below_set ?_ (IsS59.ge HI198.out)) | exact HB.out)⟩⟩
        case rest =>
          clear HC14
          try clear c1
          try clear c2
          try clear p2
          try clear c5
          try clear c6
          try clear p6
          try clear c8
          try clear c15
          try clear c15b0
          try clear p2
          try clear p6
          obtain ⟨kq, x33_13, rfl, HA, HJ13, HI198, HB⟩ := hcut
          cases kq with
          | zero => exact absurd HA.out (by simp [gonglaw01_OctetStops.j1])
          | succ kj13 =>
            have H := HA.out
            clear HA
            simp only [gonglaw01_OctetStops.j1] at H
            by_cases c16 : x33_13 = true
            · subst c16
              have H1 : (if 0 ≤ x10_1 then (if x10_1 < (l2.length : Int) then ((octet_Reader_Groups.f kj13 x199000_1 x199001_1 ((rd_T41 l2 x10_1).f1)).bind fun bt215 => (if bt215.1 = 0 then ((octet_Reader_Wide.f bt215.2.1 bt215.2.2 ((rd_T41 l2 x10_1).f1)).bind fun bt218 => (if bt218.1 = 0 then ((octet_Reader_Text.f bt218.2.1 bt218.2.2 ((rd_T41 l2 x10_1).f1)).bind fun bt221 => (if bt221.1.toList = ([] : List UInt8) then ((octet_Reader_Bytes.f bt221.2.1 bt221.2.2 ((rd_T41 l2 x10_1).f1)).bind fun bt224 => (if bt224.1.toList = ([] : List UInt8) then ((octet_Reader_Refuse.f bt224.2.1 bt224.2.2 10).bind fun bt227 => (gonglaw01_OctetStops.l0 kj13 a0 l2 (wrap64 (1 + t199)) t202 (wrap64 (x10_1 + 1)) bt227.1 bt227.2)) else (some false))) else (some false))) else (some false))) else (some false))) else (none)) else (none)) = some r := by rw [if_pos rfl] at H; exact H
              clear H
              have H := H1
              clear H1
              by_cases c17 : 0 ≤ x10_1
              · rw [if_pos c17] at H
                have c17b0 : decide (0 ≤ x10_1) = true := decide_eq_true c17
                clear c17
                by_cases c18 : x10_1 < (l2.length : Int)
                · rw [if_pos c18] at H
                  have c18b0 : decide (x10_1 < (l2.length : Int)) = true := decide_eq_true c18
                  clear c18
                  replace H := Option.bind_eq_some_iff.mp H
                  obtain ⟨⟨t215, t216, t217⟩, A190, H⟩ := H
                  replace H : (if t215 = 0 then ((octet_Reader_Wide.f t216 t217 ((rd_T41 l2 x10_1).f1)).bind fun bt218 => (if bt218.1 = 0 then ((octet_Reader_Text.f bt218.2.1 bt218.2.2 ((rd_T41 l2 x10_1).f1)).bind fun bt221 => (if bt221.1.toList = ([] : List UInt8) then ((octet_Reader_Bytes.f bt221.2.1 bt221.2.2 ((rd_T41 l2 x10_1).f1)).bind fun bt224 => (if bt224.1.toList = ([] : List UInt8) then ((octet_Reader_Refuse.f bt224.2.1 bt224.2.2 10).bind fun bt227 => (gonglaw01_OctetStops.l0 kj13 a0 l2 (wrap64 (1 + t199)) t202 (wrap64 (x10_1 + 1)) bt227.1 bt227.2)) else (some false))) else (some false))) else (some false))) else (some false)) = some r := H
                  have A19 := Aside0.mk A190
                  clear A190
                  by_cases c20 : t215 = 0
                  · rw [if_pos c20] at H
                    have c20b0 : (t215 == 0) = true := beq_iff_eq.mpr c20
                    have c20b1 : (t215 != 0) = false := bne_eq_false_iff_eq.mpr c20
                    clear c20
                    replace H := Option.bind_eq_some_iff.mp H
                    obtain ⟨⟨t218, t219, t220⟩, A210, H⟩ := H
                    replace H : (if t218 = 0 then ((octet_Reader_Text.f t219 t220 ((rd_T41 l2 x10_1).f1)).bind fun bt221 => (if bt221.1.toList = ([] : List UInt8) then ((octet_Reader_Bytes.f bt221.2.1 bt221.2.2 ((rd_T41 l2 x10_1).f1)).bind fun bt224 => (if bt224.1.toList = ([] : List UInt8) then ((octet_Reader_Refuse.f bt224.2.1 bt224.2.2 10).bind fun bt227 => (gonglaw01_OctetStops.l0 kj13 a0 l2 (wrap64 (1 + t199)) t202 (wrap64 (x10_1 + 1)) bt227.1 bt227.2)) else (some false))) else (some false))) else (some false)) = some r := H
                    have A21 := Aside0.mk A210
                    clear A210
                    by_cases c22 : t218 = 0
                    · rw [if_pos c22] at H
                      have c22b0 : (t218 == 0) = true := beq_iff_eq.mpr c22
                      have c22b1 : (t218 != 0) = false := bne_eq_false_iff_eq.mpr c22
                      clear c22
                      replace H := Option.bind_eq_some_iff.mp H
                      obtain ⟨⟨t221, t222, t223⟩, A230, H⟩ := H
                      replace H : (if t221.toList = ([] : List UInt8) then ((octet_Reader_Bytes.f t222 t223 ((rd_T41 l2 x10_1).f1)).bind fun bt224 => (if bt224.1.toList = ([] : List UInt8) then ((octet_Reader_Refuse.f bt224.2.1 bt224.2.2 10).bind fun bt227 => (gonglaw01_OctetStops.l0 kj13 a0 l2 (wrap64 (1 + t199)) t202 (wrap64 (x10_1 + 1)) bt227.1 bt227.2)) else (some false))) else (some false)) = some r := H
                      have A23 := Aside0.mk A230
                      clear A230
                      by_cases c24 : t221.toList = ([] : List UInt8)
                      · rw [if_pos c24] at H
                        have c24b0 : (t221.toList == ([] : List UInt8)) = true := beq_iff_eq.mpr c24
                        have c24b1 : (t221.toList != ([] : List UInt8)) = false := bne_eq_false_iff_eq.mpr c24
                        clear c24
                        replace H := Option.bind_eq_some_iff.mp H
                        obtain ⟨⟨t224, t225, t226⟩, A250, H⟩ := H
                        replace H : (if t224.toList = ([] : List UInt8) then ((octet_Reader_Refuse.f t225 t226 10).bind fun bt227 => (gonglaw01_OctetStops.l0 kj13 a0 l2 (wrap64 (1 + t199)) t202 (wrap64 (x10_1 + 1)) bt227.1 bt227.2)) else (some false)) = some r := H
                        have A25 := Aside0.mk A250
                        clear A250
                        by_cases c26 : t224.toList = ([] : List UInt8)
                        · rw [if_pos c26] at H
                          have c26b0 : (t224.toList == ([] : List UInt8)) = true := beq_iff_eq.mpr c26
                          have c26b1 : (t224.toList != ([] : List UInt8)) = false := bne_eq_false_iff_eq.mpr c26
                          clear c26
                          replace H := Option.bind_eq_some_iff.mp H
                          obtain ⟨⟨t227, t228⟩, A270, H⟩ := H
                          replace H : (gonglaw01_OctetStops.l0 kj13 a0 l2 (wrap64 (1 + t199)) t202 (wrap64 (x10_1 + 1)) t227 t228) = some r := H
                          have A27 := Aside0.mk A270
                          clear A270
                          have H' := Aside0.mk H
                          clear H
                          have p214 : 0 ≤ (x10_1 : Int) := of_decide_eq_true (by first | (with_reducible assumption) | assumption)
                          have q214 : x10_1 < (l2.length : Int) := of_decide_eq_true (by first | (with_reducible assumption) | assumption)
                          obtain ⟨ad214, e214, hx214_0, hx214_1⟩ := at_T41 HR2.out x10_1 p214 q214
                          cases e214
                          replace hx214_0 := (HB.out.cell (World.block_lt_of_cell? w _ hx214_0)).trans hx214_0
                          replace hx214_1 := (HB.out.cell (World.block_lt_of_cell? w _ hx214_1)).trans hx214_1
                          replace p214 := eq_true p214
                          replace q214 := eq_true q214
                          go_wp2_with (first | ((with_reducible refine gate_callee (f := 16) rfl ?_); refine goesL_ (some 43) rfl rfl Try.func16 (by kernel_rfl) rfl #[.pointer (some ⟨g198, 0, none⟩), .int .i64 ((rd_T41 l2 x10_1).f1)] rfl (by (try simp only [List.map_toArray, List.map_cons, List.map_nil]); first | done | rfl | (simp only [List.length_drop, List.length_take]; rfl)) ?_; (with_reducible refine (octet_Reader_Groups.calls kj13 g198 x199000_1 x199001_1 ((rd_T41 l2 x10_1).f1) t215 t216 t217 w _ ?side1 ?side2 A19.out).mono ?_); (case side1 => repeat (first | (with_reducible first | exact HI198.out | apply IsS59.alloc | apply IsS59.drewN | apply IsS59.drew | apply IsS59.set_0 | apply IsS59.set_1) | exact HI198.out)); (case side2 => repeat (first | (with_reducible first | exact HB.out | apply below_alloc | apply pw_below_drewN | apply below_drew1 | refine below_set ?_ (IsS59.ge HI198.out)) | exact HB.out)); rintro e w28 ⟨rfl, hi, hb, hk⟩; refine ⟨_, rfl, ?_⟩; have n0_ := Aside0.mk (hb); have n1_ := Aside0.mk (hi); clear HB; clear HI198; have HB := n0_; have HI198 := n1_; clear n0_ n1_; (try clear hb); (try clear hb2); (try clear hk); (try clear hi)) | (go_at_call 25; (with_reducible refine (octet_Reader_Wide.calls g198 t216 t217 ((rd_T41 l2 x10_1).f1) t218 t219 t220 w _ ?side1 ?side2 A21.out).mono ?_); (case side1 => repeat (first | (with_reducible first | exact HI198.out | apply IsS59.alloc | apply IsS59.drewN | apply IsS59.drew | apply IsS59.set_0 | apply IsS59.set_1) | exact HI198.out)); (case side2 => repeat (first | (with_reducible first | exact HB.out | apply below_alloc | apply pw_below_drewN | apply below_drew1 | refine below_set ?_ (IsS59.ge HI198.out)) | exact HB.out)); rintro e w29 ⟨rfl, hi, hb, hk⟩; have n0_ := Aside0.mk (hb); have n1_ := Aside0.mk (hi); clear HB; clear HI198; have HB := n0_; have HI198 := n1_; clear n0_ n1_; (try clear hb); (try clear hb2); (try clear hk); (try clear hi)) | (go_at_call 26; (with_reducible refine (octet_Reader_Text.calls g198 t219 t220 ((rd_T41 l2 x10_1).f1) t221 t222 t223 w _ ?side1 ?side2 A23.out).mono ?_); (case side1 => repeat (first | (with_reducible first | exact HI198.out | apply IsS59.alloc | apply IsS59.drewN | apply IsS59.drew | apply IsS59.set_0 | apply IsS59.set_1) | exact HI198.out)); (case side2 => repeat (first | (with_reducible first | exact HB.out | apply below_alloc | apply pw_below_drewN | apply below_drew1 | refine below_set ?_ (IsS59.ge HI198.out)) | exact HB.out)); rintro e w30 ⟨rfl, hi, hb, hk⟩; have n0_ := Aside0.mk (hb); have n1_ := Aside0.mk (hi); clear HB; clear HI198; have HB := n0_; have HI198 := n1_; clear n0_ n1_; (try clear hb); (try clear hb2); (try clear hk); (try clear hi)) | (go_at_call 27; (with_reducible refine (octet_Reader_Bytes.calls g198 t222 t223 ((rd_T41 l2 x10_1).f1) t224 t225 t226 w _ ?side1 ?side2 A25.out).mono ?_); (case side1 => repeat (first | (with_reducible first | exact HI198.out | apply IsS59.alloc | apply IsS59.drewN | apply IsS59.drew | apply IsS59.set_0 | apply IsS59.set_1) | exact HI198.out)); (case side2 => repeat (first | (with_reducible first | exact HB.out | apply below_alloc | apply pw_below_drewN | apply below_drew1 | refine below_set ?_ (IsS59.ge HI198.out)) | exact HB.out)); rintro e w31 ⟨rfl, hi, hb, hk⟩; have n0_ := Aside0.mk (hb); have n1_ := Aside0.mk (hi); clear HB; clear HI198; have HB := n0_; have HI198 := n1_; clear n0_ n1_; (try clear hb); (try clear hb2); (try clear hk); (try clear hi)) | ((with_reducible refine gate_callee (f := 24) rfl ?_); refine goesL_ (some 64) rfl rfl Try.func24 (by kernel_rfl) rfl #[.pointer (some ⟨g198, 0, none⟩), .int .i64 10] rfl (by (try simp only [List.map_toArray, List.map_cons, List.map_nil]); first | done | rfl | (simp only [List.length_drop, List.length_take]; rfl)) ?_; (with_reducible refine (octet_Reader_Refuse.calls g198 t225 t226 10 t227 t228 w _ ?side1 ?side2 A27.out).mono ?_); (case side1 => repeat (first | (with_reducible first | exact HI198.out | apply IsS59.alloc | apply IsS59.drewN | apply IsS59.drew | apply IsS59.set_0 | apply IsS59.set_1) | exact HI198.out)); (case side2 => repeat (first | (with_reducible first | exact HB.out | apply below_alloc | apply pw_below_drewN | apply below_drew1 | refine below_set ?_ (IsS59.ge HI198.out)) | exact HB.out)); rintro e w32 ⟨rfl, hi, hb, hk⟩; refine ⟨_, rfl, ?_⟩; have n0_ := Aside0.mk (hb); have n1_ := Aside0.mk (hi); clear HB; clear HI198; have HB := n0_; have HI198 := n1_; clear n0_ n1_; (try clear hb); (try clear hb2); (try clear hk); (try clear hi)))
                          go_roundg kj13
                          case measure => have := HK1.out; have := HJ13.out; omega
                          case rel => exact ⟨(wrap64 (x10_1 + 1)), (t227), (t228), (by first | rfl | (simp; done) | (simp [*]; done)), H', ⟨by have := HK1.out; have := HJ13.out; omega⟩, ⟨by repeat (first | (with_reducible first | exact HI198.out | apply IsS59.alloc | apply IsS59.drewN | apply IsS59.drew | apply IsS59.set_0 | apply IsS59.set_1) | exact HI198.out)⟩, ⟨by repeat (first | (with_reducible first | exact HB.out | apply below_alloc | apply pw_below_drewN | apply below_drew1 | refine below_set ?_ (IsS59.ge HI198.out)) | exact HB.out)⟩⟩
                        · rw [if_neg c26] at H
                          have c26b0 : (t224.toList == ([] : List UInt8)) = false := beq_eq_false_iff_ne.mpr c26
                          have c26b1 : (t224.toList != ([] : List UInt8)) = true := bne_iff_ne.mpr c26
                          obtain rfl := Option.some.inj H
                          have p214 : 0 ≤ (x10_1 : Int) := of_decide_eq_true (by first | (with_reducible assumption) | assumption)
                          have q214 : x10_1 < (l2.length : Int) := of_decide_eq_true (by first | (with_reducible assumption) | assumption)
                          obtain ⟨ad214, e214, hx214_0, hx214_1⟩ := at_T41 HR2.out x10_1 p214 q214
                          cases e214
                          replace hx214_0 := (HB.out.cell (World.block_lt_of_cell? w _ hx214_0)).trans hx214_0
                          replace hx214_1 := (HB.out.cell (World.block_lt_of_cell? w _ hx214_1)).trans hx214_1
                          replace p214 := eq_true p214
                          replace q214 := eq_true q214
                          go_wp2_with (first | ((with_reducible refine gate_callee (f := 16) rfl ?_); refine goesL_ (some 43) rfl rfl Try.func16 (by kernel_rfl) rfl #[.pointer (some ⟨g198, 0, none⟩), .int .i64 ((rd_T41 l2 x10_1).f1)] rfl (by (try simp only [List.map_toArray, List.map_cons, List.map_nil]); first | done | rfl | (simp only [List.length_drop, List.length_take]; rfl)) ?_; (with_reducible refine (octet_Reader_Groups.calls kj13 g198 x199000_1 x199001_1 ((rd_T41 l2 x10_1).f1) t215 t216 t217 w _ ?side1 ?side2 A19.out).mono ?_); (case side1 => repeat (first | (with_reducible first | exact HI198.out | apply IsS59.alloc | apply IsS59.drewN | apply IsS59.drew | apply IsS59.set_0 | apply IsS59.set_1) | exact HI198.out)); (case side2 => repeat (first | (with_reducible first | exact HB.out | apply below_alloc | apply pw_below_drewN | apply below_drew1 | refine below_set ?_ (IsS59.ge HI198.out)) | exact HB.out)); rintro e w33 ⟨rfl, hi, hb, hk⟩; refine ⟨_, rfl, ?_⟩; have n0_ := Aside0.mk (hb); have n1_ := Aside0.mk (hi); clear HB; clear HI198; have HB := n0_; have HI198 := n1_; clear n0_ n1_; (try clear hb); (try clear hb2); (try clear hk); (try clear hi)) | (go_at_call 25; (with_reducible refine (octet_Reader_Wide.calls g198 t216 t217 ((rd_T41 l2 x10_1).f1) t218 t219 t220 w _ ?side1 ?side2 A21.out).mono ?_); (case side1 => repeat (first | (with_reducible first | exact HI198.out | apply IsS59.alloc | apply IsS59.drewN | apply IsS59.drew | apply IsS59.set_0 | apply IsS59.set_1) | exact HI198.out)); (case side2 => repeat (first | (with_reducible first | exact HB.out | apply below_alloc | apply pw_below_drewN | apply below_drew1 | refine below_set ?_ (IsS59.ge HI198.out)) | exact HB.out)); rintro e w34 ⟨rfl, hi, hb, hk⟩; have n0_ := Aside0.mk (hb); have n1_ := Aside0.mk (hi); clear HB; clear HI198; have HB := n0_; have HI198 := n1_; clear n0_ n1_; (try clear hb); (try clear hb2); (try clear hk); (try clear hi)) | (go_at_call 26; (with_reducible refine (octet_Reader_Text.calls g198 t219 t220 ((rd_T41 l2 x10_1).f1) t221 t222 t223 w _ ?side1 ?side2 A23.out).mono ?_); (case side1 => repeat (first | (with_reducible first | exact HI198.out | apply IsS59.alloc | apply IsS59.drewN | apply IsS59.drew | apply IsS59.set_0 | apply IsS59.set_1) | exact HI198.out)); (case side2 => repeat (first | (with_reducible first | exact HB.out | apply below_alloc | apply pw_below_drewN | apply below_drew1 | refine below_set ?_ (IsS59.ge HI198.out)) | exact HB.out)); rintro e w35 ⟨rfl, hi, hb, hk⟩; have n0_ := Aside0.mk (hb); have n1_ := Aside0.mk (hi); clear HB; clear HI198; have HB := n0_; have HI198 := n1_; clear n0_ n1_; (try clear hb); (try clear hb2); (try clear hk); (try clear hi)) | (go_at_call 27; (with_reducible refine (octet_Reader_Bytes.calls g198 t222 t223 ((rd_T41 l2 x10_1).f1) t224 t225 t226 w _ ?side1 ?side2 A25.out).mono ?_); (case side1 => repeat (first | (with_reducible first | exact HI198.out | apply IsS59.alloc | apply IsS59.drewN | apply IsS59.drew | apply IsS59.set_0 | apply IsS59.set_1) | exact HI198.out)); (case side2 => repeat (first | (with_reducible first | exact HB.out | apply below_alloc | apply pw_below_drewN | apply below_drew1 | refine below_set ?_ (IsS59.ge HI198.out)) | exact HB.out)); rintro e w36 ⟨rfl, hi, hb, hk⟩; have n0_ := Aside0.mk (hb); have n1_ := Aside0.mk (hi); clear HB; clear HI198; have HB := n0_; have HI198 := n1_; clear n0_ n1_; (try clear hb); (try clear hb2); (try clear hk); (try clear hi)))
                          go_ret
                          exact ⟨by first | rfl | (simp [errW_none, errW_some] <;> rfl) | (simp [*, errW_none, errW_some] <;> rfl), by repeat (first | (with_reducible first | exact HB.out | apply below_alloc | apply pw_below_drewN | apply below_drew1 | refine below_set ?_ (IsS59.ge HI198.out)) | exact HB.out)⟩
                      · rw [if_neg c24] at H
                        have c24b0 : (t221.toList == ([] : List UInt8)) = false := beq_eq_false_iff_ne.mpr c24
                        have c24b1 : (t221.toList != ([] : List UInt8)) = true := bne_iff_ne.mpr c24
                        obtain rfl := Option.some.inj H
                        have p214 : 0 ≤ (x10_1 : Int) := of_decide_eq_true (by first | (with_reducible assumption) | assumption)
                        have q214 : x10_1 < (l2.length : Int) := of_decide_eq_true (by first | (with_reducible assumption) | assumption)
                        obtain ⟨ad214, e214, hx214_0, hx214_1⟩ := at_T41 HR2.out x10_1 p214 q214
                        cases e214
                        replace hx214_0 := (HB.out.cell (World.block_lt_of_cell? w _ hx214_0)).trans hx214_0
                        replace hx214_1 := (HB.out.cell (World.block_lt_of_cell? w _ hx214_1)).trans hx214_1
                        replace p214 := eq_true p214
                        replace q214 := eq_true q214
                        go_wp2_with (first | ((with_reducible refine gate_callee (f := 16) rfl ?_); refine goesL_ (some 43) rfl rfl Try.func16 (by kernel_rfl) rfl #[.pointer (some ⟨g198, 0, none⟩), .int .i64 ((rd_T41 l2 x10_1).f1)] rfl (by (try simp only [List.map_toArray, List.map_cons, List.map_nil]); first | done | rfl | (simp only [List.length_drop, List.length_take]; rfl)) ?_; (with_reducible refine (octet_Reader_Groups.calls kj13 g198 x199000_1 x199001_1 ((rd_T41 l2 x10_1).f1) t215 t216 t217 w _ ?side1 ?side2 A19.out).mono ?_); (case side1 => repeat (first | (with_reducible first | exact HI198.out | apply IsS59.alloc | apply IsS59.drewN | apply IsS59.drew | apply IsS59.set_0 | apply IsS59.set_1) | exact HI198.out)); (case side2 => repeat (first | (with_reducible first | exact HB.out | apply below_alloc | apply pw_below_drewN | apply below_drew1 | refine below_set ?_ (IsS59.ge HI198.out)) | exact HB.out)); rintro e w37 ⟨rfl, hi, hb, hk⟩; refine ⟨_, rfl, ?_⟩; have n0_ := Aside0.mk (hb); have n1_ := Aside0.mk (hi); clear HB; clear HI198; have HB := n0_; have HI198 := n1_; clear n0_ n1_; (try clear hb); (try clear hb2); (try clear hk); (try clear hi)) | (go_at_call 25; (with_reducible refine (octet_Reader_Wide.calls g198 t216 t217 ((rd_T41 l2 x10_1).f1) t218 t219 t220 w _ ?side1 ?side2 A21.out).mono ?_); (case side1 => repeat (first | (with_reducible first | exact HI198.out | apply IsS59.alloc | apply IsS59.drewN | apply IsS59.drew | apply IsS59.set_0 | apply IsS59.set_1) | exact HI198.out)); (case side2 => repeat (first | (with_reducible first | exact HB.out | apply below_alloc | apply pw_below_drewN | apply below_drew1 | refine below_set ?_ (IsS59.ge HI198.out)) | exact HB.out)); rintro e w38 ⟨rfl, hi, hb, hk⟩; have n0_ := Aside0.mk (hb); have n1_ := Aside0.mk (hi); clear HB; clear HI198; have HB := n0_; have HI198 := n1_; clear n0_ n1_; (try clear hb); (try clear hb2); (try clear hk); (try clear hi)) | (go_at_call 26; (with_reducible refine (octet_Reader_Text.calls g198 t219 t220 ((rd_T41 l2 x10_1).f1) t221 t222 t223 w _ ?side1 ?side2 A23.out).mono ?_); (case side1 => repeat (first | (with_reducible first | exact HI198.out | apply IsS59.alloc | apply IsS59.drewN | apply IsS59.drew | apply IsS59.set_0 | apply IsS59.set_1) | exact HI198.out)); (case side2 => repeat (first | (with_reducible first | exact HB.out | apply below_alloc | apply pw_below_drewN | apply below_drew1 | refine below_set ?_ (IsS59.ge HI198.out)) | exact HB.out)); rintro e w39 ⟨rfl, hi, hb, hk⟩; have n0_ := Aside0.mk (hb); have n1_ := Aside0.mk (hi); clear HB; clear HI198; have HB := n0_; have HI198 := n1_; clear n0_ n1_; (try clear hb); (try clear hb2); (try clear hk); (try clear hi)))
                        go_ret
                        exact ⟨by first | rfl | (simp [errW_none, errW_some] <;> rfl) | (simp [*, errW_none, errW_some] <;> rfl), by repeat (first | (with_reducible first | exact HB.out | apply below_alloc | apply pw_below_drewN | apply below_drew1 | refine below_set ?_ (IsS59.ge HI198.out)) | exact HB.out)⟩
                    · rw [if_neg c22] at H
                      have c22b0 : (t218 == 0) = false := beq_eq_false_iff_ne.mpr c22
                      have c22b1 : (t218 != 0) = true := bne_iff_ne.mpr c22
                      obtain rfl := Option.some.inj H
                      have p214 : 0 ≤ (x10_1 : Int) := of_decide_eq_true (by first | (with_reducible assumption) | assumption)
                      have q214 : x10_1 < (l2.length : Int) := of_decide_eq_true (by first | (with_reducible assumption) | assumption)
                      obtain ⟨ad214, e214, hx214_0, hx214_1⟩ := at_T41 HR2.out x10_1 p214 q214
                      cases e214
                      replace hx214_0 := (HB.out.cell (World.block_lt_of_cell? w _ hx214_0)).trans hx214_0
                      replace hx214_1 := (HB.out.cell (World.block_lt_of_cell? w _ hx214_1)).trans hx214_1
                      replace p214 := eq_true p214
                      replace q214 := eq_true q214
                      go_wp2_with (first | ((with_reducible refine gate_callee (f := 16) rfl ?_); refine goesL_ (some 43) rfl rfl Try.func16 (by kernel_rfl) rfl #[.pointer (some ⟨g198, 0, none⟩), .int .i64 ((rd_T41 l2 x10_1).f1)] rfl (by (try simp only [List.map_toArray, List.map_cons, List.map_nil]); first | done | rfl | (simp only [List.length_drop, List.length_take]; rfl)) ?_; (with_reducible refine (octet_Reader_Groups.calls kj13 g198 x199000_1 x199001_1 ((rd_T41 l2 x10_1).f1) t215 t216 t217 w _ ?side1 ?side2 A19.out).mono ?_); (case side1 => repeat (first | (with_reducible first | exact HI198.out | apply IsS59.alloc | apply IsS59.drewN | apply IsS59.drew | apply IsS59.set_0 | apply IsS59.set_1) | exact HI198.out)); (case side2 => repeat (first | (with_reducible first | exact HB.out | apply below_alloc | apply pw_below_drewN | apply below_drew1 | refine below_set ?_ (IsS59.ge HI198.out)) | exact HB.out)); rintro e w40 ⟨rfl, hi, hb, hk⟩; refine ⟨_, rfl, ?_⟩; have n0_ := Aside0.mk (hb); have n1_ := Aside0.mk (hi); clear HB; clear HI198; have HB := n0_; have HI198 := n1_; clear n0_ n1_; (try clear hb); (try clear hb2); (try clear hk); (try clear hi)) | (go_at_call 25; (with_reducible refine (octet_Reader_Wide.calls g198 t216 t217 ((rd_T41 l2 x10_1).f1) t218 t219 t220 w _ ?side1 ?side2 A21.out).mono ?_); (case side1 => repeat (first | (with_reducible first | exact HI198.out | apply IsS59.alloc | apply IsS59.drewN | apply IsS59.drew | apply IsS59.set_0 | apply IsS59.set_1) | exact HI198.out)); (case side2 => repeat (first | (with_reducible first | exact HB.out | apply below_alloc | apply pw_below_drewN | apply below_drew1 | refine below_set ?_ (IsS59.ge HI198.out)) | exact HB.out)); rintro e w41 ⟨rfl, hi, hb, hk⟩; have n0_ := Aside0.mk (hb); have n1_ := Aside0.mk (hi); clear HB; clear HI198; have HB := n0_; have HI198 := n1_; clear n0_ n1_; (try clear hb); (try clear hb2); (try clear hk); (try clear hi)))
                      go_ret
                      exact ⟨by first | rfl | (simp [errW_none, errW_some] <;> rfl) | (simp [*, errW_none, errW_some] <;> rfl), by repeat (first | (with_reducible first | exact HB.out | apply below_alloc | apply pw_below_drewN | apply below_drew1 | refine below_set ?_ (IsS59.ge HI198.out)) | exact HB.out)⟩
                  · rw [if_neg c20] at H
                    have c20b0 : (t215 == 0) = false := beq_eq_false_iff_ne.mpr c20
                    have c20b1 : (t215 != 0) = true := bne_iff_ne.mpr c20
                    obtain rfl := Option.some.inj H
                    have p214 : 0 ≤ (x10_1 : Int) := of_decide_eq_true (by first | (with_reducible assumption) | assumption)
                    have q214 : x10_1 < (l2.length : Int) := of_decide_eq_true (by first | (with_reducible assumption) | assumption)
                    obtain ⟨ad214, e214, hx214_0, hx214_1⟩ := at_T41 HR2.out x10_1 p214 q214
                    cases e214
                    replace hx214_0 := (HB.out.cell (World.block_lt_of_cell? w _ hx214_0)).trans hx214_0
                    replace hx214_1 := (HB.out.cell (World.block_lt_of_cell? w _ hx214_1)).trans hx214_1
                    replace p214 := eq_true p214
                    replace q214 := eq_true q214
                    go_wp2_with (first | ((with_reducible refine gate_callee (f := 16) rfl ?_); refine goesL_ (some 43) rfl rfl Try.func16 (by kernel_rfl) rfl #[.pointer (some ⟨g198, 0, none⟩), .int .i64 ((rd_T41 l2 x10_1).f1)] rfl (by (try simp only [List.map_toArray, List.map_cons, List.map_nil]); first | done | rfl | (simp only [List.length_drop, List.length_take]; rfl)) ?_; (with_reducible refine (octet_Reader_Groups.calls kj13 g198 x199000_1 x199001_1 ((rd_T41 l2 x10_1).f1) t215 t216 t217 w _ ?side1 ?side2 A19.out).mono ?_); (case side1 => repeat (first | (with_reducible first | exact HI198.out | apply IsS59.alloc | apply IsS59.drewN | apply IsS59.drew | apply IsS59.set_0 | apply IsS59.set_1) | exact HI198.out)); (case side2 => repeat (first | (with_reducible first | exact HB.out | apply below_alloc | apply pw_below_drewN | apply below_drew1 | refine below_set ?_ (IsS59.ge HI198.out)) | exact HB.out)); rintro e w42 ⟨rfl, hi, hb, hk⟩; refine ⟨_, rfl, ?_⟩; have n0_ := Aside0.mk (hb); have n1_ := Aside0.mk (hi); clear HB; clear HI198; have HB := n0_; have HI198 := n1_; clear n0_ n1_; (try clear hb); (try clear hb2); (try clear hk); (try clear hi)))
                    go_ret
                    exact ⟨by first | rfl | (simp [errW_none, errW_some] <;> rfl) | (simp [*, errW_none, errW_some] <;> rfl), by repeat (first | (with_reducible first | exact HB.out | apply below_alloc | apply pw_below_drewN | apply below_drew1 | refine below_set ?_ (IsS59.ge HI198.out)) | exact HB.out)⟩
                · rw [if_neg c18] at H
                  exact absurd H (by simp)
              · rw [if_neg c17] at H
                exact absurd H (by simp)
            · replace c16 := Bool.eq_false_iff.mpr c16
              subst c16
              have H1 : ((octet_Reader_Left.f x199000_1 x199001_1).bind fun bt205 => (if bt205.1 = t202 then (if t202 = (a0.size : Int) then ((octet_Reader_Code.f bt205.2.1 bt205.2.2).bind fun bt208 => (if bt208.1 = (wrap64 (1 + t199)) then ((octet_Reader_Done.f bt208.2.1 bt208.2.2).bind fun bt211 => (some (bt211.1 == (wrap64 (1 + t199))))) else (some false))) else (some false)) else (some false))) = some r := by rw [if_neg (show ¬ (false = true) by decide)] at H; exact H
              clear H
              have H := H1
              clear H1
              replace H := Option.bind_eq_some_iff.mp H
              obtain ⟨⟨t205, t206, t207⟩, A430, H⟩ := H
              replace H : (if t205 = t202 then (if t202 = (a0.size : Int) then ((octet_Reader_Code.f t206 t207).bind fun bt208 => (if bt208.1 = (wrap64 (1 + t199)) then ((octet_Reader_Done.f bt208.2.1 bt208.2.2).bind fun bt211 => (some (bt211.1 == (wrap64 (1 + t199))))) else (some false))) else (some false)) else (some false)) = some r := H
              have A43 := Aside0.mk A430
              clear A430
              by_cases c44 : t205 = t202
              · rw [if_pos c44] at H
                have c44b0 : (t205 == t202) = true := beq_iff_eq.mpr c44
                have c44b1 : (t205 != t202) = false := bne_eq_false_iff_eq.mpr c44
                clear c44
                by_cases c45 : t202 = (a0.size : Int)
                · rw [if_pos c45] at H
                  have c45b0 : (t202 == (a0.size : Int)) = true := beq_iff_eq.mpr c45
                  have c45b1 : (t202 != (a0.size : Int)) = false := bne_eq_false_iff_eq.mpr c45
                  clear c45
                  replace H := Option.bind_eq_some_iff.mp H
                  obtain ⟨⟨t208, t209, t210⟩, A460, H⟩ := H
                  replace H : (if t208 = (wrap64 (1 + t199)) then ((octet_Reader_Done.f t209 t210).bind fun bt211 => (some (bt211.1 == (wrap64 (1 + t199))))) else (some false)) = some r := H
                  have A46 := Aside0.mk A460
                  clear A460
                  by_cases c47 : t208 = (wrap64 (1 + t199))
                  · rw [if_pos c47] at H
                    have c47b0 : (t208 == (wrap64 (1 + t199))) = true := beq_iff_eq.mpr c47
                    have c47b1 : (t208 != (wrap64 (1 + t199))) = false := bne_eq_false_iff_eq.mpr c47
                    clear c47
                    replace H := Option.bind_eq_some_iff.mp H
                    obtain ⟨⟨t211, t212, t213⟩, A480, H⟩ := H
                    replace H : (some (t211 == (wrap64 (1 + t199)))) = some r := H
                    have A48 := Aside0.mk A480
                    clear A480
                    obtain rfl := Option.some.inj H
                    go_wp2_with (first | ((with_reducible refine gate_callee (f := 18) rfl ?_); refine goesL_ (some 66) rfl rfl Try.func18 (by kernel_rfl) rfl #[.pointer (some ⟨g198, 0, none⟩)] rfl (by (try simp only [List.map_toArray, List.map_cons, List.map_nil]); first | done | rfl | (simp only [List.length_drop, List.length_take]; rfl)) ?_; (with_reducible refine (octet_Reader_Left.calls g198 x199000_1 x199001_1 t205 t206 t207 w _ ?side1 ?side2 A43.out).mono ?_); (case side1 => repeat (first | (with_reducible first | exact HI198.out | apply IsS59.alloc | apply IsS59.drewN | apply IsS59.drew | apply IsS59.set_0 | apply IsS59.set_1) | exact HI198.out)); (case side2 => repeat (first | (with_reducible first | exact HB.out | apply below_alloc | apply pw_below_drewN | apply below_drew1 | refine below_set ?_ (IsS59.ge HI198.out)) | exact HB.out)); rintro e w49 ⟨rfl, hi, hb, hk⟩; refine ⟨_, rfl, ?_⟩; have n0_ := Aside0.mk (hb); have n1_ := Aside0.mk (hi); clear HB; clear HI198; have HB := n0_; have HI198 := n1_; clear n0_ n1_; (try clear hb); (try clear hb2); (try clear hk); (try clear hi)) | (go_at_call 17; (with_reducible refine (octet_Reader_Code.calls g198 t206 t207 t208 t209 t210 w _ ?side1 ?side2 A46.out).mono ?_); (case side1 => repeat (first | (with_reducible first | exact HI198.out | apply IsS59.alloc | apply IsS59.drewN | apply IsS59.drew | apply IsS59.set_0 | apply IsS59.set_1) | exact HI198.out)); (case side2 => repeat (first | (with_reducible first | exact HB.out | apply below_alloc | apply pw_below_drewN | apply below_drew1 | refine below_set ?_ (IsS59.ge HI198.out)) | exact HB.out)); rintro e w50 ⟨rfl, hi, hb, hk⟩; have n0_ := Aside0.mk (hb); have n1_ := Aside0.mk (hi); clear HB; clear HI198; have HB := n0_; have HI198 := n1_; clear n0_ n1_; (try clear hb); (try clear hb2); (try clear hk); (try clear hi)) | (go_at_call 21; (with_reducible refine (octet_Reader_Done.calls g198 t209 t210 t211 t212 t213 w _ ?side1 ?side2 A48.out).mono ?_); (case side1 => repeat (first | (with_reducible first | exact HI198.out | apply IsS59.alloc | apply IsS59.drewN | apply IsS59.drew | apply IsS59.set_0 | apply IsS59.set_1) | exact HI198.out)); (case side2 => repeat (first | (with_reducible first | exact HB.out | apply below_alloc | apply pw_below_drewN | apply below_drew1 | refine below_set ?_ (IsS59.ge HI198.out)) | exact HB.out)); rintro e w51 ⟨rfl, hi, hb, hk⟩; have n0_ := Aside0.mk (hb); have n1_ := Aside0.mk (hi); clear HB; clear HI198; have HB := n0_; have HI198 := n1_; clear n0_ n1_; (try clear hb); (try clear hb2); (try clear hk); (try clear hi)))
                    go_ret
                    exact ⟨by first | rfl | (simp [errW_none, errW_some] <;> rfl) | (simp [*, errW_none, errW_some] <;> rfl), by repeat (first | (with_reducible first | exact HB.out | apply below_alloc | apply pw_below_drewN | apply below_drew1 | refine below_set ?_ (IsS59.ge HI198.out)) | exact HB.out)⟩
                  · rw [if_neg c47] at H
                    have c47b0 : (t208 == (wrap64 (1 + t199))) = false := beq_eq_false_iff_ne.mpr c47
                    have c47b1 : (t208 != (wrap64 (1 + t199))) = true := bne_iff_ne.mpr c47
                    obtain rfl := Option.some.inj H
                    go_wp2_with (first | ((with_reducible refine gate_callee (f := 18) rfl ?_); refine goesL_ (some 66) rfl rfl Try.func18 (by kernel_rfl) rfl #[.pointer (some ⟨g198, 0, none⟩)] rfl (by (try simp only [List.map_toArray, List.map_cons, List.map_nil]); first | done | rfl | (simp only [List.length_drop, List.length_take]; rfl)) ?_; (with_reducible refine (octet_Reader_Left.calls g198 x199000_1 x199001_1 t205 t206 t207 w _ ?side1 ?side2 A43.out).mono ?_); (case side1 => repeat (first | (with_reducible first | exact HI198.out | apply IsS59.alloc | apply IsS59.drewN | apply IsS59.drew | apply IsS59.set_0 | apply IsS59.set_1) | exact HI198.out)); (case side2 => repeat (first | (with_reducible first | exact HB.out | apply below_alloc | apply pw_below_drewN | apply below_drew1 | refine below_set ?_ (IsS59.ge HI198.out)) | exact HB.out)); rintro e w52 ⟨rfl, hi, hb, hk⟩; refine ⟨_, rfl, ?_⟩; have n0_ := Aside0.mk (hb); have n1_ := Aside0.mk (hi); clear HB; clear HI198; have HB := n0_; have HI198 := n1_; clear n0_ n1_; (try clear hb); (try clear hb2); (try clear hk); (try clear hi)) | (go_at_call 17; (with_reducible refine (octet_Reader_Code.calls g198 t206 t207 t208 t209 t210 w _ ?side1 ?side2 A46.out).mono ?_); (case side1 => repeat (first | (with_reducible first | exact HI198.out | apply IsS59.alloc | apply IsS59.drewN | apply IsS59.drew | apply IsS59.set_0 | apply IsS59.set_1) | exact HI198.out)); (case side2 => repeat (first | (with_reducible first | exact HB.out | apply below_alloc | apply pw_below_drewN | apply below_drew1 | refine below_set ?_ (IsS59.ge HI198.out)) | exact HB.out)); rintro e w53 ⟨rfl, hi, hb, hk⟩; have n0_ := Aside0.mk (hb); have n1_ := Aside0.mk (hi); clear HB; clear HI198; have HB := n0_; have HI198 := n1_; clear n0_ n1_; (try clear hb); (try clear hb2); (try clear hk); (try clear hi)))
                    go_ret
                    exact ⟨by first | rfl | (simp [errW_none, errW_some] <;> rfl) | (simp [*, errW_none, errW_some] <;> rfl), by repeat (first | (with_reducible first | exact HB.out | apply below_alloc | apply pw_below_drewN | apply below_drew1 | refine below_set ?_ (IsS59.ge HI198.out)) | exact HB.out)⟩
                · rw [if_neg c45] at H
                  have c45b0 : (t202 == (a0.size : Int)) = false := beq_eq_false_iff_ne.mpr c45
                  have c45b1 : (t202 != (a0.size : Int)) = true := bne_iff_ne.mpr c45
                  obtain rfl := Option.some.inj H
                  go_wp2_with (first | ((with_reducible refine gate_callee (f := 18) rfl ?_); refine goesL_ (some 66) rfl rfl Try.func18 (by kernel_rfl) rfl #[.pointer (some ⟨g198, 0, none⟩)] rfl (by (try simp only [List.map_toArray, List.map_cons, List.map_nil]); first | done | rfl | (simp only [List.length_drop, List.length_take]; rfl)) ?_; (with_reducible refine (octet_Reader_Left.calls g198 x199000_1 x199001_1 t205 t206 t207 w _ ?side1 ?side2 A43.out).mono ?_); (case side1 => repeat (first | (with_reducible first | exact HI198.out | apply IsS59.alloc | apply IsS59.drewN | apply IsS59.drew | apply IsS59.set_0 | apply IsS59.set_1) | exact HI198.out)); (case side2 => repeat (first | (with_reducible first | exact HB.out | apply below_alloc | apply pw_below_drewN | apply below_drew1 | refine below_set ?_ (IsS59.ge HI198.out)) | exact HB.out)); rintro e w54 ⟨rfl, hi, hb, hk⟩; refine ⟨_, rfl, ?_⟩; have n0_ := Aside0.mk (hb); have n1_ := Aside0.mk (hi); clear HB; clear HI198; have HB := n0_; have HI198 := n1_; clear n0_ n1_; (try clear hb); (try clear hb2); (try clear hk); (try clear hi)))
                  go_ret
                  exact ⟨by first | rfl | (simp [errW_none, errW_some] <;> rfl) | (simp [*, errW_none, errW_some] <;> rfl), by repeat (first | (with_reducible first | exact HB.out | apply below_alloc | apply pw_below_drewN | apply below_drew1 | refine below_set ?_ (IsS59.ge HI198.out)) | exact HB.out)⟩
              · rw [if_neg c44] at H
                have c44b0 : (t205 == t202) = false := beq_eq_false_iff_ne.mpr c44
                have c44b1 : (t205 != t202) = true := bne_iff_ne.mpr c44
                obtain rfl := Option.some.inj H
                go_wp2_with (first | ((with_reducible refine gate_callee (f := 18) rfl ?_); refine goesL_ (some 66) rfl rfl Try.func18 (by kernel_rfl) rfl #[.pointer (some ⟨g198, 0, none⟩)] rfl (by (try simp only [List.map_toArray, List.map_cons, List.map_nil]); first | done | rfl | (simp only [List.length_drop, List.length_take]; rfl)) ?_; (with_reducible refine (octet_Reader_Left.calls g198 x199000_1 x199001_1 t205 t206 t207 w _ ?side1 ?side2 A43.out).mono ?_); (case side1 => repeat (first | (with_reducible first | exact HI198.out | apply IsS59.alloc | apply IsS59.drewN | apply IsS59.drew | apply IsS59.set_0 | apply IsS59.set_1) | exact HI198.out)); (case side2 => repeat (first | (with_reducible first | exact HB.out | apply below_alloc | apply pw_below_drewN | apply below_drew1 | refine below_set ?_ (IsS59.ge HI198.out)) | exact HB.out)); rintro e w55 ⟨rfl, hi, hb, hk⟩; refine ⟨_, rfl, ?_⟩; have n0_ := Aside0.mk (hb); have n1_ := Aside0.mk (hi); clear HB; clear HI198; have HB := n0_; have HI198 := n1_; clear n0_ n1_; (try clear hb); (try clear hb2); (try clear hk); (try clear hi)))
                go_ret
                exact ⟨by first | rfl | (simp [errW_none, errW_some] <;> rfl) | (simp [*, errW_none, errW_some] <;> rfl), by repeat (first | (with_reducible first | exact HB.out | apply below_alloc | apply pw_below_drewN | apply below_drew1 | refine below_set ?_ (IsS59.ge HI198.out)) | exact HB.out)⟩
  · replace c5 := Bool.eq_false_iff.mpr c5
    subst c5
    have H1 : (some false) = some r := by rw [if_neg (show ¬ (false = true) by decide)] at H; exact H
    clear H
    have H := H1
    clear H1
    obtain rfl := Option.some.inj H
    go_enter Try.func6, Try.ntmps6
    go_wp2_with (first | ((with_reducible refine gate_callee (f := 8) rfl ?_); refine goesL_ (some 12) rfl rfl Try.func8 (by kernel_rfl) rfl #[] rfl (by (try simp only [List.map_toArray, List.map_cons, List.map_nil]); first | done | rfl | (simp only [List.length_drop, List.length_take]; rfl)) ?_; (with_reducible refine (gonglaw01_works.calls  false _ A4.out).mono ?_); rintro e w56 ⟨rfl, hb⟩; refine ⟨_, rfl, ?_⟩; have n0_ := Aside0.mk (below_step (by repeat (first | (with_reducible first | exact HB.out | apply below_alloc | apply pw_below_drewN | apply below_drew1) | exact HB.out)) hb); clear HB; have HB := n0_; clear n0_; (try clear hb); (try clear hb2); (try clear hk); (try clear hi)))
    go_ret
    exact ⟨by first | rfl | (simp [errW_none, errW_some] <;> rfl) | (simp [*, errW_none, errW_some] <;> rfl), by repeat (first | (with_reducible first | exact HB.out | apply below_alloc | apply pw_below_drewN | apply below_drew1) | exact HB.out)⟩

end Go.Proofs.Ytbeegnajghkhoaa.Px
