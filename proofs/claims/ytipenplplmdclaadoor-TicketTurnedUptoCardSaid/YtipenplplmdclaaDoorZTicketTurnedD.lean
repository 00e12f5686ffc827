/- What the proof of TicketTurned leans on: words, walks and plain laws, part 4; laid by wip/trim.py out of this session's own texts and of what the kit's tools wrote for this seat. -/
import Derived.Test.YtipenplplmdclaaDoorZTicketTurnedC
import Derived.Laws.Strings
set_option linter.unusedVariables false
set_option linter.unusedSimpArgs false
section
namespace Go.Proofs.YtipenplplmdclaaDoor.Px
open Go.RowKit Go.Proofs.YtipenplplmdclaaDoorW.PrintWords Go.Proofs.YtipenplplmdclaaDoorW.PrintLast Go.Proofs.YtipenplplmdclaaDoorW.PrintMore
attribute [local go_sem] max2_int min2_int max_two min_two max_three min_three max_four min_four
set_option linter.unusedVariables false
set_option linter.unusedSimpArgs false
def oR_Bytes.f (s0_0 : ByteArray) (s0_1 : Int) (a1 : Int) : Option (ByteArray × ByteArray × Int) := if s0_1 = 0 then (if a1 < 0 then ((oR_Refuse.f s0_0 s0_1 1).bind fun bt303 => (some ((⟨#[]⟩ : ByteArray), bt303.1, bt303.2))) else (if a1 > (s0_0.size : Int) then ((oR_Refuse.f s0_0 s0_1 10).bind fun bt305 => (some ((⟨#[]⟩ : ByteArray), bt305.1, bt305.2))) else (if 0 ≤ a1 then (if a1 ≤ (s0_0.size : Int) then (some (s0_0.extract 0 (a1 : Int).toNat, s0_0.extract (a1 : Int).toNat s0_0.size, s0_1)) else (none)) else (none)))) else (some ((⟨#[]⟩ : ByteArray), s0_0, s0_1))
set_option maxHeartbeats 8000000 in
set_option maxRecDepth 100000 in
theorem oR_Bytes.calls (g : Nat) (s0_0 : ByteArray) (s0_1 : Int) (a1 : Int) (r1 : ByteArray) (r2 : ByteArray) (r3 : Int) (w0 w : World) (hI : J7 w0 w g s0_0 s0_1) (hB : Below w0.heap.size w0 w) (h : oR_Bytes.f s0_0 s0_1 a1 = some (r1, r2, r3)) :
  Calls Tryd.prog 37 #[.pointer (some ⟨g, 0, none⟩), .int .i64 a1] w fun e w' => e = .returned (.string r1) ∧ J7 w0 w' g r2 r3 ∧ Below w0.heap.size w0 w' ∧ KeepBut w w' g none := by
 have HI0 := Aside0.mk hI
 have HK := Aside0.mk (KeepBut.refl w g none)
 have HL := Aside0.mk hB.size
 clear hI
 have HW0 := Aside0.mk hB.size
 have HB := Aside0.mk hB
 clear hB
 have H : (if s0_1 = 0 then (if a1 < 0 then ((oR_Refuse.f s0_0 s0_1 1).bind fun bt303 => (some ((⟨#[]⟩ : ByteArray), bt303.1, bt303.2))) else (if a1 > (s0_0.size : Int) then ((oR_Refuse.f s0_0 s0_1 10).bind fun bt305 => (some ((⟨#[]⟩ : ByteArray), bt305.1, bt305.2))) else (if 0 ≤ a1 then (if a1 ≤ (s0_0.size : Int) then (some (s0_0.extract 0 (a1 : Int).toNat, s0_0.extract (a1 : Int).toNat s0_0.size, s0_1)) else (none)) else (none)))) else (some ((⟨#[]⟩ : ByteArray), s0_0, s0_1))) = some (r1, r2, r3) := h
 clear h
 by_cases c3 : s0_1 = 0
 ·rw [if_pos c3] at H
  have c3b0 : (s0_1 == 0) = true := beq_iff_eq.mpr c3
  have c3b1 : (s0_1 != 0) = false := bne_eq_false_iff_eq.mpr c3
  clear c3
  by_cases c4 : a1 < 0
  ·rw [if_pos c4] at H
   have c4b0 : decide (a1 < 0) = true := decide_eq_true c4
   clear c4
   replace H := Option.bind_eq_some_iff.mp H
   obtain ⟨⟨t303, t304⟩, A50, H⟩ := H
   try dsimp only at H
   have A5 := Aside0.mk A50
   clear A50
   simp only [Option.some.injEq, Prod.mk.injEq] at H
   obtain ⟨rfl, rfl, rfl⟩ := H
   obtain ⟨HGz6, hgz6⟩ := HI0.out
   have hcz6_0 := cellS77_0 HGz6
   have hcz6_1 := cellS77_1 HGz6
   have hfz6_0 := blk_frozen HGz6 0
   have hfz6_1 := blk_frozen HGz6 1
   clear HGz6 hgz6
   go_enter Tryd.func37, Tryd.ntmps37
   go_wp2_with (first | ((with_reducible refine gC_ (f := 58) rfl ?_); refine goesL_ (some 32) rfl rfl Tryd.func58 (by kernel_rfl) rfl #[.pointer (some ⟨g, 0, none⟩), .int .i64 1] rfl (by (try simp only [List.map_toArray, List.map_cons, List.map_nil]); first | done | rfl | (simp only [List.length_drop, List.length_take]; rfl)) ?_; (with_reducible refine (oR_Refuse.calls g s0_0 s0_1 1 t303 t304 w0 _ ?side1 ?side2 A5.out).mono ?_); (case side1 => repeat (first | (with_reducible first | exact HI0.out | apply J7.alloc | apply J7.drewN | apply J7.drew | apply J7.set_0 | apply J7.set_1) | exact HI0.out)); (case side2 => repeat (first | (with_reducible first | exact HB.out | apply bA_ | apply bN_ | apply bD_ | refine bS_ ?_ (J7.ge HI0.out)) | exact HB.out)); rintro e w7 ⟨rfl, hi, hb, hk⟩; refine ⟨_, rfl, ?_⟩; have n0_ := Aside0.mk (KeepBut.trans (by repeat (first | (with_reducible first | exact HK.out | apply KeepBut.set_ | apply pN_ | apply pD_ | apply pA_) | exact HK.out)) hk (.inl rfl)); have n1_ := Aside0.mk (hb); have n2_ := Aside0.mk (hi); clear HK; clear HB; clear HI0; have HK := n0_; have HB := n1_; have HI0 := n2_; clear n0_ n1_ n2_; (try clear hb); (try clear hb2); (try clear hk); (try clear hi)))
   go_ret
   exact ⟨by first | rfl | (simp [errW_none, errW_some] <;> rfl) | (simp [*, errW_none, errW_some] <;> rfl), by repeat (first | (with_reducible first | exact HI0.out | apply J7.alloc | apply J7.drewN | apply J7.drew | apply J7.set_0 | apply J7.set_1) | exact HI0.out), by repeat (first | (with_reducible first | exact HB.out | apply bA_ | apply bN_ | apply bD_ | refine bS_ ?_ (J7.ge HI0.out)) | exact HB.out), by repeat (first | (with_reducible first | exact HK.out | apply KeepBut.set_ | apply pN_ | apply pD_ | apply pA_) | exact HK.out)⟩
  ·rw [if_neg c4] at H
   have c4b0 : decide (a1 < 0) = false := decide_eq_false c4
   clear c4
   by_cases c8 : a1 > (s0_0.size : Int)
   ·rw [if_pos c8] at H
    have c8b0 : decide ((s0_0.size : Int) < a1) = true := decide_eq_true c8
    clear c8
    replace H := Option.bind_eq_some_iff.mp H
    obtain ⟨⟨t305, t306⟩, A90, H⟩ := H
    try dsimp only at H
    have A9 := Aside0.mk A90
    clear A90
    simp only [Option.some.injEq, Prod.mk.injEq] at H
    obtain ⟨rfl, rfl, rfl⟩ := H
    obtain ⟨HGz10, hgz10⟩ := HI0.out
    have hcz10_0 := cellS77_0 HGz10
    have hcz10_1 := cellS77_1 HGz10
    have hfz10_0 := blk_frozen HGz10 0
    have hfz10_1 := blk_frozen HGz10 1
    clear HGz10 hgz10
    go_enter Tryd.func37, Tryd.ntmps37
    go_wp2_with (first | ((with_reducible refine gC_ (f := 58) rfl ?_); refine goesL_ (some 42) rfl rfl Tryd.func58 (by kernel_rfl) rfl #[.pointer (some ⟨g, 0, none⟩), .int .i64 10] rfl (by (try simp only [List.map_toArray, List.map_cons, List.map_nil]); first | done | rfl | (simp only [List.length_drop, List.length_take]; rfl)) ?_; (with_reducible refine (oR_Refuse.calls g s0_0 s0_1 10 t305 t306 w0 _ ?side1 ?side2 A9.out).mono ?_); (case side1 => repeat (first | (with_reducible first | exact HI0.out | apply J7.alloc | apply J7.drewN | apply J7.drew | apply J7.set_0 | apply J7.set_1) | exact HI0.out)); (case side2 => repeat (first | (with_reducible first | exact HB.out | apply bA_ | apply bN_ | apply bD_ | refine bS_ ?_ (J7.ge HI0.out)) | exact HB.out)); rintro e w11 ⟨rfl, hi, hb, hk⟩; refine ⟨_, rfl, ?_⟩; have n0_ := Aside0.mk (KeepBut.trans (by repeat (first | (with_reducible first | exact HK.out | apply KeepBut.set_ | apply pN_ | apply pD_ | apply pA_) | exact HK.out)) hk (.inl rfl)); have n1_ := Aside0.mk (hb); have n2_ := Aside0.mk (hi); clear HK; clear HB; clear HI0; have HK := n0_; have HB := n1_; have HI0 := n2_; clear n0_ n1_ n2_; (try clear hb); (try clear hb2); (try clear hk); (try clear hi)))
    go_ret
    exact ⟨by first | rfl | (simp [errW_none, errW_some] <;> rfl) | (simp [*, errW_none, errW_some] <;> rfl), by repeat (first | (with_reducible first | exact HI0.out | apply J7.alloc | apply J7.drewN | apply J7.drew | apply J7.set_0 | apply J7.set_1) | exact HI0.out), by repeat (first | (with_reducible first | exact HB.out | apply bA_ | apply bN_ | apply bD_ | refine bS_ ?_ (J7.ge HI0.out)) | exact HB.out), by repeat (first | (with_reducible first | exact HK.out | apply KeepBut.set_ | apply pN_ | apply pD_ | apply pA_) | exact HK.out)⟩
   ·rw [if_neg c8] at H
    have c8b0 : decide ((s0_0.size : Int) < a1) = false := decide_eq_false c8
    clear c8
    by_cases c12 : 0 ≤ a1
    ·rw [if_pos c12] at H
     have c12b0 := eq_true c12
     have c12b1 : decide (0 ≤ a1) = true := decide_eq_true c12
     clear c12
     by_cases c13 : a1 ≤ (s0_0.size : Int)
     ·rw [if_pos c13] at H
      have c13b0 := eq_true c13
      have c13b1 : decide (a1 ≤ (s0_0.size : Int)) = true := decide_eq_true c13
      clear c13
      have c14b0 := eq_true (of_decide_eq_true (by first | (with_reducible assumption) | assumption) : 0 ≤ a1)
      have c15b0 := eq_true (of_decide_eq_true (by first | (with_reducible assumption) | assumption) : a1 ≤ (s0_0.size : Int))
      simp only [Option.some.injEq, Prod.mk.injEq] at H
      obtain ⟨rfl, rfl, rfl⟩ := H
      obtain ⟨HGz16, hgz16⟩ := HI0.out
      have hcz16_0 := cellS77_0 HGz16
      have hcz16_1 := cellS77_1 HGz16
      have hfz16_0 := blk_frozen HGz16 0
      have hfz16_1 := blk_frozen HGz16 1
      clear HGz16 hgz16
      go_enter Tryd.func37, Tryd.ntmps37
      go_wp2
      go_ret
      exact ⟨by first | rfl | (simp [errW_none, errW_some] <;> rfl) | (simp [*, errW_none, errW_some] <;> rfl), by repeat (first | (with_reducible first | exact HI0.out | apply J7.alloc | apply J7.drewN | apply J7.drew | apply J7.set_0 | apply J7.set_1) | exact HI0.out), by repeat (first | (with_reducible first | exact HB.out | apply bA_ | apply bN_ | apply bD_ | refine bS_ ?_ (J7.ge HI0.out)) | exact HB.out), by repeat (first | (with_reducible first | exact HK.out | apply KeepBut.set_ | apply pN_ | apply pD_ | apply pA_) | exact HK.out)⟩
     ·rw [if_neg c13] at H
      exact absurd H (by simp)
    ·rw [if_neg c12] at H
     exact absurd H (by simp)
 ·rw [if_neg c3] at H
  have c3b0 : (s0_1 == 0) = false := beq_eq_false_iff_ne.mpr c3
  have c3b1 : (s0_1 != 0) = true := bne_iff_ne.mpr c3
  simp only [Option.some.injEq, Prod.mk.injEq] at H
  obtain ⟨rfl, rfl, rfl⟩ := H
  obtain ⟨HGz17, hgz17⟩ := HI0.out
  have hcz17_0 := cellS77_0 HGz17
  have hcz17_1 := cellS77_1 HGz17
  have hfz17_0 := blk_frozen HGz17 0
  have hfz17_1 := blk_frozen HGz17 1
  clear HGz17 hgz17
  go_enter Tryd.func37, Tryd.ntmps37
  go_wp2
  go_ret
  exact ⟨by first | rfl | (simp [errW_none, errW_some] <;> rfl) | (simp [*, errW_none, errW_some] <;> rfl), by repeat (first | (with_reducible first | exact HI0.out | apply J7.alloc | apply J7.drewN | apply J7.drew | apply J7.set_0 | apply J7.set_1) | exact HI0.out), by repeat (first | (with_reducible first | exact HB.out | apply bA_ | apply bN_ | apply bD_ | refine bS_ ?_ (J7.ge HI0.out)) | exact HB.out), by repeat (first | (with_reducible first | exact HK.out | apply KeepBut.set_ | apply pN_ | apply pD_ | apply pA_) | exact HK.out)⟩
def oR_Wide.f (s0_0 : ByteArray) (s0_1 : Int) (a1 : Int) : Option (Int × ByteArray × Int) :=
  (if a1 < 1 ∨ 8 < a1 then oR_Refuse.f s0_0 s0_1 1 else some (s0_0, s0_1)).bind fun b => (oR_Bytes.f b.1 b.2 a1).bind fun c =>
    if c.1.size ≤ 8 then (if Go.Proofs.YtipenplplmdclaaDoor.Oct.wideU (Go.Proofs.YtipenplplmdclaaDoor.BR.ints c.1) < 9223372036854775808 then some (Go.Proofs.YtipenplplmdclaaDoor.Oct.wideU (Go.Proofs.YtipenplplmdclaaDoor.BR.ints c.1), c.2.1, c.2.2) else (oR_Refuse.f c.2.1 c.2.2 1).bind fun d => some (0, b.1, d.2)) else none
set_option maxHeartbeats 4000000 in
set_option maxRecDepth 100000 in
theorem oR_Wide.calls (g : Nat) (s0_0 : ByteArray) (s0_1 : Int) (a1 : Int) (r1 : Int) (r2 : ByteArray) (r3 : Int) (w0 w : World) (hI : J7 w0 w g s0_0 s0_1) (hB : Below w0.heap.size w0 w) (h : oR_Wide.f s0_0 s0_1 a1 = some (r1, r2, r3)) :
  Calls Tryd.prog 34 #[.pointer (some ⟨g, 0, none⟩), .int .i64 a1] w fun e w' => e = .returned (.int .i64 r1) ∧ J7 w0 w' g r2 r3 ∧ Below w0.heap.size w0 w' ∧ KeepBut w w' g none := by
 have hg := hI.2
 unfold oR_Wide.f at h
 obtain ⟨⟨s1, c1⟩, h1, h⟩ := Option.bind_eq_some_iff.mp h
 obtain ⟨⟨t, s2, c2⟩, h2, h⟩ := Option.bind_eq_some_iff.mp h
 by_cases hs : t.size ≤ 8
 case neg => rw [if_neg hs] at h; cases h
 rw [if_pos hs] at h
 have H2 := Lib.hid h2
 have H3 := Lib.hid h
 clear h2 h
 have HI := Aside0.mk hI
 have HB := Aside0.mk hB
 clear hI hB
 have H1 := Lib.hid h1
 clear h1
 go_enter Tryd.func34, Tryd.ntmps34
 go_upto_region 1 with (fail)
 go_cut [14] (fun v14 wc => v14 = .bool (decide (a1 < 1 ∨ 8 < a1)) ∧ w = wc)
 case first =>
  by_cases hw1 : a1 < 1
  ·have e : decide (a1 < 1 ∨ 8 < a1) = true := decide_eq_true (.inl hw1)
   have HE := Lib.hid e
   clear e
   go_wp2_with fail
   go_meet
   case rel => exact ⟨by rw [HE.out], rfl⟩
  ·by_cases hw2 : 8 < a1
   ·have e : decide (a1 < 1 ∨ 8 < a1) = true := decide_eq_true (.inr hw2)
    have HE := Lib.hid e
    clear e
    go_wp2_with fail
    go_meet
    case rel => exact ⟨by rw [HE.out], rfl⟩
   ·have e : decide (a1 < 1 ∨ 8 < a1) = false := decide_eq_false (by omega)
    have HE := Lib.hid e
    clear e
    go_wp2_with fail
    go_meet
    case rel => exact ⟨by rw [HE.out], rfl⟩
 case rest =>
 obtain ⟨rfl, rfl⟩ := hcut
 go_upto_if 14 with (fail)
 go_cut [4] (fun v4 wc => v4 = .int .i64 0 ∧ Aside0 (J7 w0 wc g s1 c1) ∧ Aside0 (Below w0.heap.size w0 wc) ∧ Aside0 (KeepBut w wc g none))
 case first =>
  have h1 := H1.out
  by_cases hw : a1 < 1 ∨ 8 < a1
  ·rw [if_pos hw] at h1
   have H1' := Lib.hid h1
   clear h1 H1
   rw [decide_eq_true hw]
   clear hw
   go_wp2_with fail
   refine (oR_Refuse.calls g s0_0 s0_1 1 s1 c1 w0 w HI.out HB.out H1'.out).mono ?_
   rintro e W1 ⟨rfl, hi1, hb1, hk1⟩
   go_wp2_with fail
   go_meet
   case rel => exact ⟨rfl, ⟨hi1⟩, ⟨hb1⟩, ⟨hk1⟩⟩
  ·rw [if_neg hw] at h1
   injection h1 with h1
   injection h1 with h1 h2
   subst h1
   subst h2
   rw [decide_eq_false hw]
   clear hw
   go_wp2_with fail
   go_meet
   case rel => exact ⟨rfl, HI, HB, ⟨KeepBut.refl _ _ _⟩⟩
 case rest =>
  obtain ⟨rfl, HI1, HB1, HK1⟩ := hcut
  have HG1 := HI1.out.1
  have hc0 := cellS77_0 HG1
  have hc1 := cellS77_1 HG1
  clear HG1 HI HB
  go_wp2_with fail
  refine (oR_Bytes.calls g s1 c1 a1 t s2 c2 w0 wc HI1.out HB1.out H2.out).mono ?_
  rintro e W2 ⟨rfl, hi2, hb2, hk2⟩
  have hrow := Go.Proofs.YtipenplplmdclaaDoor.BR.bytesWorld_row W2 5 t (by unfold maxLen; omega)
  have hbel := Go.Proofs.YtipenplplmdclaaDoor.BR.bytesWorld_below W2 5 t
  have kc := Lib.run_convert_string_bytes (P := Tryd.prog) W2 9 44 5 t Tryd.underlying9 Tryd.underlying44 Tryd.underlying5
  generalize Lib.bytesWorld W2 5 t = W3 at kc hrow hbel
  generalize grownCap W2 t.size 0 5 = cp at kc hrow
  have HR := Lib.hid hrow
  have HI3 := Aside0.mk (hi2.below hbel)
  have HB3 := Aside0.mk (hb2.trans (hbel.mono hb2.size))
  have HK3 := Aside0.mk ((HK1.out.trans hk2 (.inl rfl)).trans (KeepBut.of_below hbel g none) (.inl rfl))
  clear hrow hbel hi2 hb2 hk2 HI1 HB1 HK1 hc0 hc1
  have hil : (Go.Proofs.YtipenplplmdclaaDoor.BR.ints t).length = t.size := by simp [Go.Proofs.YtipenplplmdclaaDoor.BR.ints]
  have HL := Lib.hid hil
  clear hil
  go_wp2_with fail
  go_loop [6, 26] (fun n i => ∃ k : Nat, k ≤ t.size ∧ i = .int .i64 k ∧ n = .int .u64 (Go.Proofs.YtipenplplmdclaaDoor.Oct.wideU ((Go.Proofs.YtipenplplmdclaaDoor.BR.ints t).take k))) (fun _ i => t.size - (intOf i).toNat)
  case atStart => exact ⟨0, Nat.zero_le _, rfl, rfl⟩
  case round =>
   obtain ⟨k, hk, rfl, rfl⟩ := hrel
   by_cases hlt : k < t.size
   ·have hc := HR.out.cell k (by rw [HL.out]; exact hlt)
    have HS := Lib.hid (Go.Proofs.YtipenplplmdclaaDoor.Oct.wideU_snoc (Go.Proofs.YtipenplplmdclaaDoor.BR.ints t) k (by rw [HL.out]; exact hlt))
    have hb0 := Go.Proofs.YtipenplplmdclaaDoor.Oct.ints_range t k
    have hw := Lib.hid (show IntKind.u64.wrap ((Go.Proofs.YtipenplplmdclaaDoor.BR.ints t).getD k 0) = (Go.Proofs.YtipenplplmdclaaDoor.BR.ints t).getD k 0 by rw [IntKind.wrap_u64]; omega)
    clear hb0
    go_wp2_with fail
    go_round
    case rel => exact ⟨k + 1, by omega, rfl, by rw [HS.out]; exact congrArg (fun z => Value.int .u64 (Go.bits .or .u64 _ z)) hw.out⟩
    case measure => simp [intOf]; omega
   ·obtain rfl : k = t.size := by omega
    have htk : (Go.Proofs.YtipenplplmdclaaDoor.BR.ints t).take t.size = Go.Proofs.YtipenplplmdclaaDoor.BR.ints t := List.take_of_length_le (by rw [HL.out]; exact Nat.le_refl _)
    rw [htk]
    have hr := Lib.hid (Go.Proofs.YtipenplplmdclaaDoor.Oct.wideU_range (Go.Proofs.YtipenplplmdclaaDoor.BR.ints t))
    have h3 := H3.out
    by_cases hbig : Go.Proofs.YtipenplplmdclaaDoor.Oct.wideU (Go.Proofs.YtipenplplmdclaaDoor.BR.ints t) < 9223372036854775808
    ·rw [if_pos hbig] at h3
     injection h3 with h3
     simp only [Prod.mk.injEq] at h3
     obtain ⟨rfl, rfl, rfl⟩ := h3
     have hwr := Lib.hid (show wrap64 (Go.Proofs.YtipenplplmdclaaDoor.Oct.wideU (Go.Proofs.YtipenplplmdclaaDoor.BR.ints t)) = Go.Proofs.YtipenplplmdclaaDoor.Oct.wideU (Go.Proofs.YtipenplplmdclaaDoor.BR.ints t) by have := hr.out; unfold wrap64; omega)
     go_wp2_with fail
     go_ret
     exact ⟨by show Ending.returned (.int .i64 (wrap64 _)) = _; rw [hwr.out], HI3.out, HB3.out, HK3.out⟩
    ·rw [if_neg hbig] at h3
     obtain ⟨⟨s3, c3⟩, h4, h3⟩ := Option.bind_eq_some_iff.mp h3
     injection h3 with h3
     simp only [Prod.mk.injEq] at h3
     obtain ⟨rfl, rfl, rfl⟩ := h3
     have H4 := Lib.hid h4
     clear h4 H3
     go_wp2_with fail
     refine (oR_Refuse.calls g s2 c2 1 s3 c3 w0 W3 HI3.out HB3.out H4.out).mono ?_
     rintro e W4 ⟨rfl, hi4, hb4, hk4⟩
     have HG4 := hi4.1
     have hd0 := cellS77_0 HG4
     have hf0 := blk_frozen HG4 0
     have HI4 := Aside0.mk hi4
     have HB4 := Aside0.mk hb4
     have HK4 := Aside0.mk (HK3.out.trans hk4 (.inl rfl))
     clear HG4 hi4 hb4 hk4
     go_wp2_with fail
     go_ret
     exact ⟨rfl, HI4.out.set_0 _, bS_ HB4.out hg, HK4.out.set_ _ _⟩
def oR_Text.f (s0_0 : ByteArray) (s0_1 : Int) (a1 : Int) : Option (ByteArray × ByteArray × Int) :=
  (oR_Groups.f 40 s0_0 s0_1 a1).bind fun b => (oR_Bytes.f b.2.1 b.2.2 b.1).bind fun c => if c.2.2 = 0 then some (c.1, c.2.1, c.2.2) else some (c.1, s0_0, c.2.2)
set_option maxHeartbeats 4000000 in
set_option maxRecDepth 100000 in
theorem oR_Text.calls (g : Nat) (s0_0 : ByteArray) (s0_1 : Int) (a1 : Int) (r1 : ByteArray) (r2 : ByteArray) (r3 : Int) (w0 w : World) (hI : J7 w0 w g s0_0 s0_1) (hB : Below w0.heap.size w0 w) (h : oR_Text.f s0_0 s0_1 a1 = some (r1, r2, r3)) :
  Calls Tryd.prog 35 #[.pointer (some ⟨g, 0, none⟩), .int .i64 a1] w fun e w' => e = .returned (.string r1) ∧ J7 w0 w' g r2 r3 ∧ Below w0.heap.size w0 w' ∧ KeepBut w w' g none := by
 unfold oR_Text.f at h
 obtain ⟨⟨n, s1, c1⟩, h1, h⟩ := Option.bind_eq_some_iff.mp h
 obtain ⟨⟨t, s2, c2⟩, h2, h⟩ := Option.bind_eq_some_iff.mp h
 have H1 := Lib.hid h1
 have H2 := Lib.hid h2
 have H3 := Lib.hid h
 clear h1 h2 h
 obtain ⟨HG, hg⟩ := hI
 have hc0 := cellS77_0 HG
 have hc1 := cellS77_1 HG
 have HI := Aside0.mk (show J7 w0 w g s0_0 s0_1 from ⟨HG, hg⟩)
 have HB := Aside0.mk hB
 clear HG hB
 go_enter Tryd.func35, Tryd.ntmps35
 go_wp2_with fail
 refine (oR_Groups.calls 40 g s0_0 s0_1 a1 n s1 c1 w0 w HI.out HB.out H1.out).mono ?_
 rintro e W1 ⟨rfl, hi1, hb1, hk1⟩
 have HI1 := Aside0.mk hi1
 have HB1 := Aside0.mk hb1
 have HK1 := Aside0.mk hk1
 clear hi1 hb1 hk1
 go_wp2_with fail
 refine (oR_Bytes.calls g s1 c1 n t s2 c2 w0 W1 HI1.out HB1.out H2.out).mono ?_
 rintro e W2 ⟨rfl, hi2, hb2, hk2⟩
 obtain ⟨HG2, _⟩ := hi2
 have hd0 := cellS77_0 HG2
 have hd1 := cellS77_1 HG2
 have hf0 := blk_frozen HG2 0
 have HI2 := Aside0.mk (show J7 w0 W2 g s2 c2 from ⟨HG2, hg⟩)
 have HB2 := Aside0.mk hb2
 have HK2 := Aside0.mk (HK1.out.trans hk2 (.inl rfl))
 clear HG2 hb2 hk2
 by_cases hz : c2 = 0
 ·have h3 := H3.out
  rw [if_pos hz] at h3
  injection h3 with h3
  simp only [Prod.mk.injEq] at h3
  obtain ⟨rfl, rfl, rfl⟩ := h3
  have hzb : (c2 != 0) = false := bne_eq_false_iff_eq.mpr hz
  clear hz
  go_wp2_with fail
  go_ret
  exact ⟨rfl, HI2.out, HB2.out, HK2.out⟩
 ·have h3 := H3.out
  rw [if_neg hz] at h3
  injection h3 with h3
  simp only [Prod.mk.injEq] at h3
  obtain ⟨rfl, rfl, rfl⟩ := h3
  have hzb : (c2 != 0) = true := bne_iff_ne.mpr hz
  clear hz
  go_wp2_with fail
  go_ret
  exact ⟨rfl, HI2.out.set_0 _, bS_ HB2.out hg, HK2.out.set_ _ _⟩
end Go.Proofs.YtipenplplmdclaaDoor.Px
end
section
namespace Go.Proofs.YtipenplplmdclaaDoor.Px
open Go.RowKit Go.Proofs.YtipenplplmdclaaDoorW.PrintWords Go.Proofs.YtipenplplmdclaaDoorW.PrintLast Go.Proofs.YtipenplplmdclaaDoorW.PrintMore
attribute [local go_sem] max2_int min2_int max_two min_two max_three min_three max_four min_four
set_option linter.unusedVariables false
set_option linter.unusedSimpArgs false
def norm_Decode.f (k : Nat) (a0 : ByteArray) : Option (ByteArray × ByteArray × ByteArray × Int × ByteArray × Int) := (octet_Read.f a0).bind fun bt308 => ((oR_Text.f bt308.1 bt308.2 64).bind fun bt311 => ((oR_Text.f bt311.2.1 bt311.2.2 64).bind fun bt314 => ((oR_Text.f bt314.2.1 bt314.2.2 128).bind fun bt317 => ((oR_Text.f bt317.2.1 bt317.2.2 1024).bind fun bt320 => ((oR_Groups.f k bt320.2.1 bt320.2.2 5).bind fun bt323 => ((oR_Done.f bt323.2.1 bt323.2.2).bind fun bt327 => (if bt327.1 = 0 then ((norm_Check.f k bt311.1 bt314.1 bt317.1 bt323.1 bt320.1).bind fun t330 => (if t330 = 0 then (some (bt311.1, bt314.1, bt317.1, bt323.1, bt320.1, 0)) else (some ((⟨#[]⟩ : ByteArray), (⟨#[]⟩ : ByteArray), (⟨#[]⟩ : ByteArray), 0, (⟨#[]⟩ : ByteArray), 180)))) else (some ((⟨#[]⟩ : ByteArray), (⟨#[]⟩ : ByteArray), (⟨#[]⟩ : ByteArray), 0, (⟨#[]⟩ : ByteArray), 180)))))))))
set_option maxHeartbeats 8000000 in
set_option maxRecDepth 100000 in
theorem norm_Decode.calls (k : Nat) (a0 : ByteArray) (r1 : ByteArray) (r2 : ByteArray) (r3 : ByteArray) (r4 : Int) (r5 : ByteArray) (r6 : Int) (w : World) (h : norm_Decode.f k a0 = some (r1, r2, r3, r4, r5, r6)) :
  Calls Tryd.prog 36 #[.string a0] w fun e w' => e = .returned (.tuple #[.agg #[.string r1, .string r2, .string r3, .int .i64 r4, .string r5], .int .i64 r6]) ∧ Below w.heap.size w w' := by
 have hu23 := Tryd.underlying23
 have HB := Aside0.mk (Below.refl w.heap.size w)
 have H : ((octet_Read.f a0).bind fun bt308 => ((oR_Text.f bt308.1 bt308.2 64).bind fun bt311 => ((oR_Text.f bt311.2.1 bt311.2.2 64).bind fun bt314 => ((oR_Text.f bt314.2.1 bt314.2.2 128).bind fun bt317 => ((oR_Text.f bt317.2.1 bt317.2.2 1024).bind fun bt320 => ((oR_Groups.f k bt320.2.1 bt320.2.2 5).bind fun bt323 => ((oR_Done.f bt323.2.1 bt323.2.2).bind fun bt327 => (if bt327.1 = 0 then ((norm_Check.f k bt311.1 bt314.1 bt317.1 bt323.1 bt320.1).bind fun t330 => (if t330 = 0 then (some (bt311.1, bt314.1, bt317.1, bt323.1, bt320.1, 0)) else (some ((⟨#[]⟩ : ByteArray), (⟨#[]⟩ : ByteArray), (⟨#[]⟩ : ByteArray), 0, (⟨#[]⟩ : ByteArray), 180)))) else (some ((⟨#[]⟩ : ByteArray), (⟨#[]⟩ : ByteArray), (⟨#[]⟩ : ByteArray), 0, (⟨#[]⟩ : ByteArray), 180)))))))))) = some (r1, r2, r3, r4, r5, r6) := h
 clear h
 replace H := Option.bind_eq_some_iff.mp H
 obtain ⟨⟨t308, t309⟩, A20, H⟩ := H
 try dsimp only at H
 have A2 := Aside0.mk A20
 clear A20
 replace H := Option.bind_eq_some_iff.mp H
 obtain ⟨⟨t311, t312, t313⟩, A30, H⟩ := H
 try dsimp only at H
 have A3 := Aside0.mk A30
 clear A30
 replace H := Option.bind_eq_some_iff.mp H
 obtain ⟨⟨t314, t315, t316⟩, A40, H⟩ := H
 try dsimp only at H
 have A4 := Aside0.mk A40
 clear A40
 replace H := Option.bind_eq_some_iff.mp H
 obtain ⟨⟨t317, t318, t319⟩, A50, H⟩ := H
 try dsimp only at H
 have A5 := Aside0.mk A50
 clear A50
 replace H := Option.bind_eq_some_iff.mp H
 obtain ⟨⟨t320, t321, t322⟩, A60, H⟩ := H
 try dsimp only at H
 have A6 := Aside0.mk A60
 clear A60
 replace H := Option.bind_eq_some_iff.mp H
 obtain ⟨⟨t323, t324, t325⟩, A70, H⟩ := H
 try dsimp only at H
 have A7 := Aside0.mk A70
 clear A70
 replace H := Option.bind_eq_some_iff.mp H
 obtain ⟨⟨t327, t328, t329⟩, A80, H⟩ := H
 try dsimp only at H
 have A8 := Aside0.mk A80
 clear A80
 by_cases c9 : t327 = 0
 ·rw [if_pos c9] at H
  have c9b0 : (t327 == 0) = true := beq_iff_eq.mpr c9
  have c9b1 : (t327 != 0) = false := bne_eq_false_iff_eq.mpr c9
  clear c9
  replace H := Option.bind_eq_some_iff.mp H
  obtain ⟨t330, A100, H⟩ := H
  try dsimp only at H
  have A10 := Aside0.mk A100
  clear A100
  by_cases c11 : t330 = 0
  ·rw [if_pos c11] at H
   have c11b0 : (t330 == 0) = true := beq_iff_eq.mpr c11
   have c11b1 : (t330 != 0) = false := bne_eq_false_iff_eq.mpr c11
   clear c11
   simp only [Option.some.injEq, Prod.mk.injEq] at H
   obtain ⟨rfl, rfl, rfl, rfl, rfl, rfl⟩ := H
   go_enter Tryd.func36, Tryd.ntmps36
   go_wp2_with (first | ((with_reducible refine gD_ (N := 2) rfl ?_); refine gB_ ?hg (N := 2) ?hd (cs := #[.string (⟨#[]⟩ : ByteArray), .string (⟨#[]⟩ : ByteArray), .string (⟨#[]⟩ : ByteArray), .int .i64 0, .string (⟨#[]⟩ : ByteArray)]) (t := 23) ?hr ?_; (case hd => rfl); (case hg => rfl); (case hr => first | (go_simp; done) | (go_simp; rfl)); intro gb307 hg w12 hbox hb; have n0_ := Aside0.mk (bT_ (by repeat (first | (with_reducible first | exact HB.out | apply bA_ | apply bN_ | apply bD_) | exact HB.out)) hb); have n1_ := Aside0.mk (hbox); have n2_ := Aside0.mk ((by rw [hg]; exact (bZ_ (by repeat (first | (with_reducible first | exact HB.out | apply bA_ | apply bN_ | apply bD_) | exact HB.out))) : w.heap.size ≤ gb307)); have n3_ := Aside0.mk ((by rw [hg]; exact (bZ_ (by repeat (first | (with_reducible first | exact HB.out | apply bA_ | apply bN_ | apply bD_) | exact HB.out))) : w.heap.size ≤ gb307)); clear HB; have HB := n0_; have BK307 := n1_; have GW307 := n2_; have GE307 := n3_; clear n0_ n1_ n2_ n3_; clear hb hbox hg) | ((with_reducible refine gC_ (f := 56) rfl ?_); refine goesL_ (some 7) rfl rfl Tryd.func56 (by kernel_rfl) rfl #[.string a0] rfl (by (try simp only [List.map_toArray, List.map_cons, List.map_nil]); first | done | rfl | (simp only [List.length_drop, List.length_take]; rfl)) ?_; (with_reducible refine (octet_Read.calls a0 t308 t309 w _ ?side1 A2.out).mono ?_); (case side1 => repeat (first | (with_reducible first | exact HB.out | apply bA_ | apply bN_ | apply bD_ | refine bS_ ?_ GE307.out) | exact HB.out)); rintro e w13 ⟨g310, rfl, hi, hb, hb2⟩; refine ⟨_, rfl, ?_⟩; have n0_ := Aside0.mk (kB_ (g := gb307) (o := .cells #[.string (⟨#[]⟩ : ByteArray), .string (⟨#[]⟩ : ByteArray), .string (⟨#[]⟩ : ByteArray), .int .i64 0, .string (⟨#[]⟩ : ByteArray)] 23 (0, 0)) (by (with_reducible repeat (first | refine kN_ ?_ _ | refine kD_ ?_ | refine kA_ ?_ _)); exact BK307.out) hb2); have n1_ := Aside0.mk (hb); have n2_ := Aside0.mk (hi); have n3_ := Aside0.mk (J7.ne_blk hi (kB_ (g := gb307) (o := .cells #[.string (⟨#[]⟩ : ByteArray), .string (⟨#[]⟩ : ByteArray), .string (⟨#[]⟩ : ByteArray), .int .i64 0, .string (⟨#[]⟩ : ByteArray)] 23 (0, 0)) (by (with_reducible repeat (first | refine kN_ ?_ _ | refine kD_ ?_ | refine kA_ ?_ _)); exact BK307.out) hb2) (by decide)); have n4_ := Aside0.mk (Ne.symm (J7.ne_blk hi (kB_ (g := gb307) (o := .cells #[.string (⟨#[]⟩ : ByteArray), .string (⟨#[]⟩ : ByteArray), .string (⟨#[]⟩ : ByteArray), .int .i64 0, .string (⟨#[]⟩ : ByteArray)] 23 (0, 0)) (by (with_reducible repeat (first | refine kN_ ?_ _ | refine kD_ ?_ | refine kA_ ?_ _)); exact BK307.out) hb2) (by decide))); clear BK307; clear HB; have BK307 := n0_; have HB := n1_; have HI310 := n2_; have NB310_307 := n3_; have NB307_310 := n4_; clear n0_ n1_ n2_ n3_ n4_; (try clear hb); (try clear hb2); (try clear hk); (try clear hi)) | ((with_reducible refine gC_ (f := 35) rfl ?_); refine goesL_ (some 9) rfl rfl Tryd.func35 (by kernel_rfl) rfl #[.pointer (some ⟨g310, 0, none⟩), .int .i64 64] rfl (by (try simp only [List.map_toArray, List.map_cons, List.map_nil]); first | done | rfl | (simp only [List.length_drop, List.length_take]; rfl)) ?_; (with_reducible refine (oR_Text.calls g310 t308 t309 64 t311 t312 t313 w _ ?side1 ?side2 A3.out).mono ?_); (case side1 => repeat (first | (with_reducible first | exact HI310.out | apply J7.alloc | apply J7.drewN | apply J7.drew | apply J7.set_0 | apply J7.set_1 | refine J7.far ?_ NB310_307.out _) | exact HI310.out)); (case side2 => repeat (first | (with_reducible first | exact HB.out | apply bA_ | apply bN_ | apply bD_ | refine bS_ ?_ (J7.ge HI310.out) | refine bS_ ?_ GE307.out) | exact HB.out)); rintro e w14 ⟨rfl, hi, hb, hk⟩; refine ⟨_, rfl, ?_⟩; have n0_ := Aside0.mk (KeepBut.blk hk (g' := gb307) (o := .cells #[.string (⟨#[]⟩ : ByteArray), .string (⟨#[]⟩ : ByteArray), .string (⟨#[]⟩ : ByteArray), .int .i64 0, .string (⟨#[]⟩ : ByteArray)] 23 (0, 0)) (by (with_reducible repeat (first | refine kN_ ?_ _ | refine kD_ ?_ | refine kA_ ?_ _)); exact BK307.out) NB307_310.out (by simp)); have n1_ := Aside0.mk (hb); have n2_ := Aside0.mk (hi); clear BK307; clear HB; clear HI310; have BK307 := n0_; have HB := n1_; have HI310 := n2_; clear n0_ n1_ n2_; (try clear hb); (try clear hb2); (try clear hk); (try clear hi)) | ((with_reducible refine gC_ (f := 35) rfl ?_); refine goesL_ (some 11) rfl rfl Tryd.func35 (by kernel_rfl) rfl #[.pointer (some ⟨g310, 0, none⟩), .int .i64 64] rfl (by (try simp only [List.map_toArray, List.map_cons, List.map_nil]); first | done | rfl | (simp only [List.length_drop, List.length_take]; rfl)) ?_; (with_reducible refine (oR_Text.calls g310 t312 t313 64 t314 t315 t316 w _ ?side1 ?side2 A4.out).mono ?_); (case side1 => repeat (first | (with_reducible first | exact HI310.out | apply J7.alloc | apply J7.drewN | apply J7.drew | apply J7.set_0 | apply J7.set_1 | refine J7.far ?_ NB310_307.out _) | exact HI310.out)); (case side2 => repeat (first | (with_reducible first | exact HB.out | apply bA_ | apply bN_ | apply bD_ | refine bS_ ?_ (J7.ge HI310.out) | refine bS_ ?_ GE307.out) | exact HB.out)); rintro e w15 ⟨rfl, hi, hb, hk⟩; refine ⟨_, rfl, ?_⟩; have n0_ := Aside0.mk (KeepBut.blk hk (g' := gb307) (o := .cells #[.string (⟨#[]⟩ : ByteArray), .string (⟨#[]⟩ : ByteArray), .string (⟨#[]⟩ : ByteArray), .int .i64 0, .string (⟨#[]⟩ : ByteArray)] 23 (0, 0)) (by (with_reducible repeat (first | refine kN_ ?_ _ | refine kD_ ?_ | refine kA_ ?_ _)); exact BK307.out) NB307_310.out (by simp)); have n1_ := Aside0.mk (hb); have n2_ := Aside0.mk (hi); clear BK307; clear HB; clear HI310; have BK307 := n0_; have HB := n1_; have HI310 := n2_; clear n0_ n1_ n2_; (try clear hb); (try clear hb2); (try clear hk); (try clear hi)) | ((with_reducible refine gC_ (f := 35) rfl ?_); refine goesL_ (some 13) rfl rfl Tryd.func35 (by kernel_rfl) rfl #[.pointer (some ⟨g310, 0, none⟩), .int .i64 128] rfl (by (try simp only [List.map_toArray, List.map_cons, List.map_nil]); first | done | rfl | (simp only [List.length_drop, List.length_take]; rfl)) ?_; (with_reducible refine (oR_Text.calls g310 t315 t316 128 t317 t318 t319 w _ ?side1 ?side2 A5.out).mono ?_); (case side1 => repeat (first | (with_reducible first | exact HI310.out | apply J7.alloc | apply J7.drewN | apply J7.drew | apply J7.set_0 | apply J7.set_1 | refine J7.far ?_ NB310_307.out _) | exact HI310.out)); (case side2 => repeat (first | (with_reducible first | exact HB.out | apply bA_ | apply bN_ | apply bD_ | refine bS_ ?_ (J7.ge HI310.out) | refine bS_ ?_ GE307.out) | exact HB.out)); rintro e w16 ⟨rfl, hi, hb, hk⟩; refine ⟨_, rfl, ?_⟩; have n0_ := Aside0.mk (KeepBut.blk hk (g' := gb307) (o := .cells #[.string (⟨#[]⟩ : ByteArray), .string (⟨#[]⟩ : ByteArray), .string (⟨#[]⟩ : ByteArray), .int .i64 0, .string (⟨#[]⟩ : ByteArray)] 23 (0, 0)) (by (with_reducible repeat (first | refine kN_ ?_ _ | refine kD_ ?_ | refine kA_ ?_ _)); exact BK307.out) NB307_310.out (by simp)); have n1_ := Aside0.mk (hb); have n2_ := Aside0.mk (hi); clear BK307; clear HB; clear HI310; have BK307 := n0_; have HB := n1_; have HI310 := n2_; clear n0_ n1_ n2_; (try clear hb); (try clear hb2); (try clear hk); (try clear hi)) | ((with_reducible refine gC_ (f := 35) rfl ?_); refine goesL_ (some 15) rfl rfl Tryd.func35 (by kernel_rfl) rfl #[.pointer (some ⟨g310, 0, none⟩), .int .i64 1024] rfl (by (try simp only [List.map_toArray, List.map_cons, List.map_nil]); first | done | rfl | (simp only [List.length_drop, List.length_take]; rfl)) ?_; (with_reducible refine (oR_Text.calls g310 t318 t319 1024 t320 t321 t322 w _ ?side1 ?side2 A6.out).mono ?_); (case side1 => repeat (first | (with_reducible first | exact HI310.out | apply J7.alloc | apply J7.drewN | apply J7.drew | apply J7.set_0 | apply J7.set_1 | refine J7.far ?_ NB310_307.out _) | exact HI310.out)); (case side2 => repeat (first | (with_reducible first | exact HB.out | apply bA_ | apply bN_ | apply bD_ | refine bS_ ?_ (J7.ge HI310.out) | refine bS_ ?_ GE307.out) | exact HB.out)); rintro e w17 ⟨rfl, hi, hb, hk⟩; refine ⟨_, rfl, ?_⟩; have n0_ := Aside0.mk (KeepBut.blk hk (g' := gb307) (o := .cells #[.string (⟨#[]⟩ : ByteArray), .string (⟨#[]⟩ : ByteArray), .string (⟨#[]⟩ : ByteArray), .int .i64 0, .string (⟨#[]⟩ : ByteArray)] 23 (0, 0)) (by (with_reducible repeat (first | refine kN_ ?_ _ | refine kD_ ?_ | refine kA_ ?_ _)); exact BK307.out) NB307_310.out (by simp)); have n1_ := Aside0.mk (hb); have n2_ := Aside0.mk (hi); clear BK307; clear HB; clear HI310; have BK307 := n0_; have HB := n1_; have HI310 := n2_; clear n0_ n1_ n2_; (try clear hb); (try clear hb2); (try clear hk); (try clear hi)) | ((with_reducible refine gC_ (f := 33) rfl ?_); refine goesL_ (some 17) rfl rfl Tryd.func33 (by kernel_rfl) rfl #[.pointer (some ⟨g310, 0, none⟩), .int .i64 5] rfl (by (try simp only [List.map_toArray, List.map_cons, List.map_nil]); first | done | rfl | (simp only [List.length_drop, List.length_take]; rfl)) ?_; (with_reducible refine (oR_Groups.calls k g310 t321 t322 5 t323 t324 t325 w _ ?side1 ?side2 A7.out).mono ?_); (case side1 => repeat (first | (with_reducible first | exact HI310.out | apply J7.alloc | apply J7.drewN | apply J7.drew | apply J7.set_0 | apply J7.set_1 | refine J7.far ?_ NB310_307.out _) | exact HI310.out)); (case side2 => repeat (first | (with_reducible first | exact HB.out | apply bA_ | apply bN_ | apply bD_ | refine bS_ ?_ (J7.ge HI310.out) | refine bS_ ?_ GE307.out) | exact HB.out)); rintro e w18 ⟨rfl, hi, hb, hk⟩; refine ⟨_, rfl, ?_⟩; have n0_ := Aside0.mk (KeepBut.blk hk (g' := gb307) (o := .cells #[.string (⟨#[]⟩ : ByteArray), .string (⟨#[]⟩ : ByteArray), .string (⟨#[]⟩ : ByteArray), .int .i64 0, .string (⟨#[]⟩ : ByteArray)] 23 (0, 0)) (by (with_reducible repeat (first | refine kN_ ?_ _ | refine kD_ ?_ | refine kA_ ?_ _)); exact BK307.out) NB307_310.out (by simp)); have n1_ := Aside0.mk (hb); have n2_ := Aside0.mk (hi); clear BK307; clear HB; clear HI310; have BK307 := n0_; have HB := n1_; have HI310 := n2_; clear n0_ n1_ n2_; (try clear hb); (try clear hb2); (try clear hk); (try clear hi)) | ((with_reducible refine gD_ (N := 5) rfl ?_); refine gB_ ?hg (N := 5) ?hd (cs := #[.string (⟨#[]⟩ : ByteArray), .string (⟨#[]⟩ : ByteArray), .string (⟨#[]⟩ : ByteArray), .int .i64 0, .string (⟨#[]⟩ : ByteArray)]) (t := 23) ?hr ?_; (case hd => rfl); (case hg => rfl); (case hr => first | (go_simp; done) | (go_simp; rfl)); intro gb326 hg w19 hbox hb; have n0_ := Aside0.mk (kB_ (g := gb307) (o := .cells #[.string (⟨#[]⟩ : ByteArray), .string (⟨#[]⟩ : ByteArray), .string (⟨#[]⟩ : ByteArray), .int .i64 0, .string (⟨#[]⟩ : ByteArray)] 23 (0, 0)) (by (with_reducible repeat (first | refine kN_ ?_ _ | refine kD_ ?_ | refine kA_ ?_ _)); exact BK307.out) hb); have n1_ := Aside0.mk (J7.below (by repeat (first | (with_reducible first | exact HI310.out | apply J7.alloc | apply J7.drewN | apply J7.drew | apply J7.set_0 | apply J7.set_1 | refine J7.far ?_ NB310_307.out _) | exact HI310.out)) hb); have n2_ := Aside0.mk (bT_ (by repeat (first | (with_reducible first | exact HB.out | apply bA_ | apply bN_ | apply bD_ | refine bS_ ?_ (J7.ge HI310.out) | refine bS_ ?_ GE307.out) | exact HB.out)) hb); have n3_ := Aside0.mk (hbox); have n4_ := Aside0.mk ((by rw [hg]; exact (bZ_ (by repeat (first | (with_reducible first | exact HB.out | apply bA_ | apply bN_ | apply bD_ | refine bS_ ?_ (J7.ge HI310.out) | refine bS_ ?_ GE307.out) | exact HB.out))) : w.heap.size ≤ gb326)); have n5_ := Aside0.mk ((by rw [hg]; exact (bZ_ (by repeat (first | (with_reducible first | exact HB.out | apply bA_ | apply bN_ | apply bD_ | refine bS_ ?_ (J7.ge HI310.out) | refine bS_ ?_ GE307.out) | exact HB.out))) : w.heap.size ≤ gb326)); have n6_ := Aside0.mk ((by rw [hg]; exact Nat.ne_of_lt (blk_lt (g := gb307) (o := .cells #[.string (⟨#[]⟩ : ByteArray), .string (⟨#[]⟩ : ByteArray), .string (⟨#[]⟩ : ByteArray), .int .i64 0, .string (⟨#[]⟩ : ByteArray)] 23 (0, 0)) (by (with_reducible repeat (first | refine kN_ ?_ _ | refine kD_ ?_ | refine kA_ ?_ _)); exact BK307.out)) : gb307 ≠ gb326)); have n7_ := Aside0.mk ((by rw [hg]; exact Nat.ne_of_gt (blk_lt (g := gb307) (o := .cells #[.string (⟨#[]⟩ : ByteArray), .string (⟨#[]⟩ : ByteArray), .string (⟨#[]⟩ : ByteArray), .int .i64 0, .string (⟨#[]⟩ : ByteArray)] 23 (0, 0)) (by (with_reducible repeat (first | refine kN_ ?_ _ | refine kD_ ?_ | refine kA_ ?_ _)); exact BK307.out)) : gb326 ≠ gb307)); have n8_ := Aside0.mk ((by rw [hg]; exact Nat.ne_of_lt (J7.lt (show J7 w _ g310 t324 t325 from by repeat (first | (with_reducible first | exact HI310.out | apply J7.alloc | apply J7.drewN | apply J7.drew | apply J7.set_0 | apply J7.set_1 | refine J7.far ?_ NB310_307.out _) | exact HI310.out))) : g310 ≠ gb326)); have n9_ := Aside0.mk ((by rw [hg]; exact Nat.ne_of_gt (J7.lt (show J7 w _ g310 t324 t325 from by repeat (first | (with_reducible first | exact HI310.out | apply J7.alloc | apply J7.drewN | apply J7.drew | apply J7.set_0 | apply J7.set_1 | refine J7.far ?_ NB310_307.out _) | exact HI310.out))) : gb326 ≠ g310)); clear BK307; clear HI310; clear HB; have BK307 := n0_; have HI310 := n1_; have HB := n2_; have BK326 := n3_; have GW326 := n4_; have GE326 := n5_; have NB307_326 := n6_; have NB326_307 := n7_; have NB310_326 := n8_; have NB326_310 := n9_; clear n0_ n1_ n2_ n3_ n4_ n5_ n6_ n7_ n8_ n9_; clear hb hbox hg; have hnb20 := NB326_307.out; have hnc20 := NB307_326.out; have hnb21 := NB326_310.out; have hnc21 := NB310_326.out; obtain ⟨_,_,_,_,_⟩ := cell5 BK326.out; obtain ⟨_,_,_,_,_⟩ := froz5 BK326.out) | ((with_reducible refine gC_ (f := 39) rfl ?_); refine goesL_ (some 20) rfl rfl Tryd.func39 (by kernel_rfl) rfl #[.pointer (some ⟨g310, 0, none⟩)] rfl (by (try simp only [List.map_toArray, List.map_cons, List.map_nil]); first | done | rfl | (simp only [List.length_drop, List.length_take]; rfl)) ?_; (with_reducible refine (oR_Done.calls g310 t324 t325 t327 t328 t329 w _ ?side1 ?side2 A8.out).mono ?_); (case side1 => repeat (first | (with_reducible first | exact HI310.out | apply J7.alloc | apply J7.drewN | apply J7.drew | apply J7.set_0 | apply J7.set_1 | refine J7.far ?_ NB310_307.out _ | refine J7.far ?_ NB310_326.out _) | exact HI310.out)); (case side2 => repeat (first | (with_reducible first | exact HB.out | apply bA_ | apply bN_ | apply bD_ | refine bS_ ?_ (J7.ge HI310.out) | refine bS_ ?_ GE307.out | refine bS_ ?_ GE326.out) | exact HB.out)); rintro e w23 ⟨rfl, hi, hb, hk⟩; refine ⟨_, rfl, ?_⟩; have n0_ := Aside0.mk (KeepBut.blk hk (g' := gb307) (o := .cells #[.string (⟨#[]⟩ : ByteArray), .string (⟨#[]⟩ : ByteArray), .string (⟨#[]⟩ : ByteArray), .int .i64 0, .string (⟨#[]⟩ : ByteArray)] 23 (0, 0)) (by (with_reducible repeat (first | refine kN_ ?_ _ | refine kD_ ?_ | refine kA_ ?_ _)); refine kF_ ?_ NB307_326.out _; (with_reducible repeat (first | refine kN_ ?_ _ | refine kD_ ?_ | refine kA_ ?_ _)); refine kF_ ?_ NB307_326.out _; (with_reducible repeat (first | refine kN_ ?_ _ | refine kD_ ?_ | refine kA_ ?_ _)); refine kF_ ?_ NB307_326.out _; (with_reducible repeat (first | refine kN_ ?_ _ | refine kD_ ?_ | refine kA_ ?_ _)); refine kF_ ?_ NB307_326.out _; (with_reducible repeat (first | refine kN_ ?_ _ | refine kD_ ?_ | refine kA_ ?_ _)); refine kF_ ?_ NB307_326.out _; (with_reducible repeat (first | refine kN_ ?_ _ | refine kD_ ?_ | refine kA_ ?_ _)); exact BK307.out) NB307_310.out (by simp)); have n1_ := Aside0.mk (KeepBut.blk hk (g' := gb326) (o := .cells #[.string t311, .string t314, .string t317, .int .i64 t323, .string t320] 23 (0, 0)) (by (with_reducible repeat (first | refine kN_ ?_ _ | refine kD_ ?_ | refine kA_ ?_ _)); refine blk_p5_0_4 (show _ = some (Obj.cells #[.string (⟨#[]⟩ : ByteArray), .string (⟨#[]⟩ : ByteArray), .string (⟨#[]⟩ : ByteArray), .int .i64 0, .string (⟨#[]⟩ : ByteArray)] _ (0, 0)) from ?_); (with_reducible repeat (first | refine kN_ ?_ _ | refine kD_ ?_ | refine kA_ ?_ _)); exact BK326.out) NB326_310.out (by simp)); have n2_ := Aside0.mk (hb); have n3_ := Aside0.mk (hi); clear BK307; clear BK326; clear HB; clear HI310; have BK307 := n0_; have BK326 := n1_; have HB := n2_; have HI310 := n3_; clear n0_ n1_ n2_ n3_; (try clear hb); (try clear hb2); (try clear hk); (try clear hi); obtain ⟨_,_,_,_,_⟩ := cell5 BK326.out; obtain ⟨_,_,_,_,_⟩ := froz5 BK326.out) | (go_at_call 46; (with_reducible refine (norm_Check.calls k t311 t314 t317 t323 t320 t330 _ A10.out).mono ?_); rintro e w25 ⟨rfl, hb⟩; have n0_ := Aside0.mk (kB_ (g := gb307) (o := .cells #[.string (⟨#[]⟩ : ByteArray), .string (⟨#[]⟩ : ByteArray), .string (⟨#[]⟩ : ByteArray), .int .i64 0, .string (⟨#[]⟩ : ByteArray)] 23 (0, 0)) (by (with_reducible repeat (first | refine kN_ ?_ _ | refine kD_ ?_ | refine kA_ ?_ _)); exact BK307.out) hb); have n1_ := Aside0.mk (J7.below (by repeat (first | (with_reducible first | exact HI310.out | apply J7.alloc | apply J7.drewN | apply J7.drew | apply J7.set_0 | apply J7.set_1 | refine J7.far ?_ NB310_307.out _ | refine J7.far ?_ NB310_326.out _) | exact HI310.out)) hb); have n2_ := Aside0.mk (kB_ (g := gb326) (o := .cells #[.string t311, .string t314, .string t317, .int .i64 t323, .string t320] 23 (0, 0)) (by (with_reducible repeat (first | refine kN_ ?_ _ | refine kD_ ?_ | refine kA_ ?_ _)); exact BK326.out) hb); have n3_ := Aside0.mk (bT_ (by repeat (first | (with_reducible first | exact HB.out | apply bA_ | apply bN_ | apply bD_ | refine bS_ ?_ (J7.ge HI310.out) | refine bS_ ?_ GE307.out | refine bS_ ?_ GE326.out) | exact HB.out)) hb); clear BK307; clear HI310; clear BK326; clear HB; have BK307 := n0_; have HI310 := n1_; have BK326 := n2_; have HB := n3_; clear n0_ n1_ n2_ n3_; (try clear hb); (try clear hb2); (try clear hk); (try clear hi); obtain ⟨_,_,_,_,_⟩ := cell5 BK326.out; obtain ⟨_,_,_,_,_⟩ := froz5 BK326.out; have hnb27 := NB307_310.out; have hnc27 := NB310_307.out; obtain ⟨_,_,_,_,_⟩ := cell5 BK307.out; obtain ⟨_,_,_,_,_⟩ := froz5 BK307.out))
   refine bodyPost_ret (results_ct rfl _ _ gb307 23 #[.string t311, .string t314, .string t317, .int .i64 t323, .string t320] (0, 0) _ rfl (by (with_reducible repeat (first | refine kN_ ?_ _ | refine kD_ ?_ | refine kA_ ?_ _)); refine blk_p5_0_4 (show _ = some (Obj.cells #[.string (⟨#[]⟩ : ByteArray), .string (⟨#[]⟩ : ByteArray), .string (⟨#[]⟩ : ByteArray), .int .i64 0, .string (⟨#[]⟩ : ByteArray)] _ (0, 0)) from ?_); (with_reducible repeat (first | refine kN_ ?_ _ | refine kD_ ?_ | refine kA_ ?_ _)); exact BK307.out) Tryd.underlying23 rfl (by kernel_rfl)) rfl ?_
   exact ⟨by first | rfl | (simp [errW_none, errW_some] <;> rfl) | (simp [*, errW_none, errW_some] <;> rfl), by repeat (first | (with_reducible first | exact HB.out | apply bA_ | apply bN_ | apply bD_ | refine bS_ ?_ (J7.ge HI310.out) | refine bS_ ?_ GE307.out | refine bS_ ?_ GE326.out) | exact HB.out)⟩
  ·rw [if_neg c11] at H
   have c11b0 : (t330 == 0) = false := beq_eq_false_iff_ne.mpr c11
   have c11b1 : (t330 != 0) = true := bne_iff_ne.mpr c11
   simp only [Option.some.injEq, Prod.mk.injEq] at H
   obtain ⟨rfl, rfl, rfl, rfl, rfl, rfl⟩ := H
   go_enter Tryd.func36, Tryd.ntmps36
   go_wp2_with (first | ((with_reducible refine gD_ (N := 2) rfl ?_); refine gB_ ?hg (N := 2) ?hd (cs := #[.string (⟨#[]⟩ : ByteArray), .string (⟨#[]⟩ : ByteArray), .string (⟨#[]⟩ : ByteArray), .int .i64 0, .string (⟨#[]⟩ : ByteArray)]) (t := 23) ?hr ?_; (case hd => rfl); (case hg => rfl); (case hr => first | (go_simp; done) | (go_simp; rfl)); intro gb307 hg w29 hbox hb; have n0_ := Aside0.mk (bT_ (by repeat (first | (with_reducible first | exact HB.out | apply bA_ | apply bN_ | apply bD_) | exact HB.out)) hb); have n1_ := Aside0.mk (hbox); have n2_ := Aside0.mk ((by rw [hg]; exact (bZ_ (by repeat (first | (with_reducible first | exact HB.out | apply bA_ | apply bN_ | apply bD_) | exact HB.out))) : w.heap.size ≤ gb307)); have n3_ := Aside0.mk ((by rw [hg]; exact (bZ_ (by repeat (first | (with_reducible first | exact HB.out | apply bA_ | apply bN_ | apply bD_) | exact HB.out))) : w.heap.size ≤ gb307)); clear HB; have HB := n0_; have BK307 := n1_; have GW307 := n2_; have GE307 := n3_; clear n0_ n1_ n2_ n3_; clear hb hbox hg) | ((with_reducible refine gC_ (f := 56) rfl ?_); refine goesL_ (some 7) rfl rfl Tryd.func56 (by kernel_rfl) rfl #[.string a0] rfl (by (try simp only [List.map_toArray, List.map_cons, List.map_nil]); first | done | rfl | (simp only [List.length_drop, List.length_take]; rfl)) ?_; (with_reducible refine (octet_Read.calls a0 t308 t309 w _ ?side1 A2.out).mono ?_); (case side1 => repeat (first | (with_reducible first | exact HB.out | apply bA_ | apply bN_ | apply bD_ | refine bS_ ?_ GE307.out) | exact HB.out)); rintro e w30 ⟨g310, rfl, hi, hb, hb2⟩; refine ⟨_, rfl, ?_⟩; have n0_ := Aside0.mk (kB_ (g := gb307) (o := .cells #[.string (⟨#[]⟩ : ByteArray), .string (⟨#[]⟩ : ByteArray), .string (⟨#[]⟩ : ByteArray), .int .i64 0, .string (⟨#[]⟩ : ByteArray)] 23 (0, 0)) (by (with_reducible repeat (first | refine kN_ ?_ _ | refine kD_ ?_ | refine kA_ ?_ _)); exact BK307.out) hb2); have n1_ := Aside0.mk (hb); have n2_ := Aside0.mk (hi); have n3_ := Aside0.mk (J7.ne_blk hi (kB_ (g := gb307) (o := .cells #[.string (⟨#[]⟩ : ByteArray), .string (⟨#[]⟩ : ByteArray), .string (⟨#[]⟩ : ByteArray), .int .i64 0, .string (⟨#[]⟩ : ByteArray)] 23 (0, 0)) (by (with_reducible repeat (first | refine kN_ ?_ _ | refine kD_ ?_ | refine kA_ ?_ _)); exact BK307.out) hb2) (by decide)); have n4_ := Aside0.mk (Ne.symm (J7.ne_blk hi (kB_ (g := gb307) (o := .cells #[.string (⟨#[]⟩ : ByteArray), .string (⟨#[]⟩ : ByteArray), .string (⟨#[]⟩ : ByteArray), .int .i64 0, .string (⟨#[]⟩ : ByteArray)] 23 (0, 0)) (by (with_reducible repeat (first | refine kN_ ?_ _ | refine kD_ ?_ | refine kA_ ?_ _)); exact BK307.out) hb2) (by decide))); clear BK307; clear HB; have BK307 := n0_; have HB := n1_; have HI310 := n2_; have NB310_307 := n3_; have NB307_310 := n4_; clear n0_ n1_ n2_ n3_ n4_; (try clear hb); (try clear hb2); (try clear hk); (try clear hi)) | ((with_reducible refine gC_ (f := 35) rfl ?_); refine goesL_ (some 9) rfl rfl Tryd.func35 (by kernel_rfl) rfl #[.pointer (some ⟨g310, 0, none⟩), .int .i64 64] rfl (by (try simp only [List.map_toArray, List.map_cons, List.map_nil]); first | done | rfl | (simp only [List.length_drop, List.length_take]; rfl)) ?_; (with_reducible refine (oR_Text.calls g310 t308 t309 64 t311 t312 t313 w _ ?side1 ?side2 A3.out).mono ?_); (case side1 => repeat (first | (with_reducible first | exact HI310.out | apply J7.alloc | apply J7.drewN | apply J7.drew | apply J7.set_0 | apply J7.set_1 | refine J7.far ?_ NB310_307.out _) | exact HI310.out)); (case side2 => repeat (first | (with_reducible first | exact HB.out | apply bA_ | apply bN_ | apply bD_ | refine bS_ ?_ (J7.ge HI310.out) | refine bS_ ?_ GE307.out) | exact HB.out)); rintro e w31 ⟨rfl, hi, hb, hk⟩; refine ⟨_, rfl, ?_⟩; have n0_ := Aside0.mk (KeepBut.blk hk (g' := gb307) (o := .cells #[.string (⟨#[]⟩ : ByteArray), .string (⟨#[]⟩ : ByteArray), .string (⟨#[]⟩ : ByteArray), .int .i64 0, .string (⟨#[]⟩ : ByteArray)] 23 (0, 0)) (by (with_reducible repeat (first | refine kN_ ?_ _ | refine kD_ ?_ | refine kA_ ?_ _)); exact BK307.out) NB307_310.out (by simp)); have n1_ := Aside0.mk (hb); have n2_ := Aside0.mk (hi); clear BK307; clear HB; clear HI310; have BK307 := n0_; have HB := n1_; have HI310 := n2_; clear n0_ n1_ n2_; (try clear hb); (try clear hb2); (try clear hk); (try clear hi)) | ((with_reducible refine gC_ (f := 35) rfl ?_); refine goesL_ (some 11) rfl rfl Tryd.func35 (by kernel_rfl) rfl #[.pointer (some ⟨g310, 0, none⟩), .int .i64 64] rfl (by (try simp only [List.map_toArray, List.map_cons, List.map_nil]); first | done | rfl | (simp only [List.length_drop, List.length_take]; rfl)) ?_; (with_reducible refine (oR_Text.calls g310 t312 t313 64 t314 t315 t316 w _ ?side1 ?side2 A4.out).mono ?_); (case side1 => repeat (first | (with_reducible first | exact HI310.out | apply J7.alloc | apply J7.drewN | apply J7.drew | apply J7.set_0 | apply J7.set_1 | refine J7.far ?_ NB310_307.out _) | exact HI310.out)); (case side2 => repeat (first | (with_reducible first | exact HB.out | apply bA_ | apply bN_ | apply bD_ | refine bS_ ?_ (J7.ge HI310.out) | refine bS_ ?_ GE307.out) | exact HB.out)); rintro e w32 ⟨rfl, hi, hb, hk⟩; refine ⟨_, rfl, ?_⟩; have n0_ := Aside0.mk (KeepBut.blk hk (g' := gb307) (o := .cells #[.string (⟨#[]⟩ : ByteArray), .string (⟨#[]⟩ : ByteArray), .string (⟨#[]⟩ : ByteArray), .int .i64 0, .string (⟨#[]⟩ : ByteArray)] 23 (0, 0)) (by (with_reducible repeat (first | refine kN_ ?_ _ | refine kD_ ?_ | refine kA_ ?_ _)); exact BK307.out) NB307_310.out (by simp)); have n1_ := Aside0.mk (hb); have n2_ := Aside0.mk (hi); clear BK307; clear HB; clear HI310; have BK307 := n0_; have HB := n1_; have HI310 := n2_; clear n0_ n1_ n2_; (try clear hb); (try clear hb2); (try clear hk); (try clear hi)) | ((with_reducible refine gC_ (f := 35) rfl ?_); refine goesL_ (some 13) rfl rfl Tryd.func35 (by kernel_rfl) rfl #[.pointer (some ⟨g310, 0, none⟩), .int .i64 128] rfl (by (try simp only [List.map_toArray, List.map_cons, List.map_nil]); first | done | rfl | (simp only [List.length_drop, List.length_take]; rfl)) ?_; (with_reducible refine (oR_Text.calls g310 t315 t316 128 t317 t318 t319 w _ ?side1 ?side2 A5.out).mono ?_); (case side1 => repeat (first | (with_reducible first | exact HI310.out | apply J7.alloc | apply J7.drewN | apply J7.drew | apply J7.set_0 | apply J7.set_1 | refine J7.far ?_ NB310_307.out _) | exact HI310.out)); (case side2 => repeat (first | (with_reducible first | exact HB.out | apply bA_ | apply bN_ | apply bD_ | refine bS_ ?_ (J7.ge HI310.out) | refine bS_ ?_ GE307.out) | exact HB.out)); rintro e w33 ⟨rfl, hi, hb, hk⟩; refine ⟨_, rfl, ?_⟩; have n0_ := Aside0.mk (KeepBut.blk hk (g' := gb307) (o := .cells #[.string (⟨#[]⟩ : ByteArray), .string (⟨#[]⟩ : ByteArray), .string (⟨#[]⟩ : ByteArray), .int .i64 0, .string (⟨#[]⟩ : ByteArray)] 23 (0, 0)) (by (with_reducible repeat (first | refine kN_ ?_ _ | refine kD_ ?_ | refine kA_ ?_ _)); exact BK307.out) NB307_310.out (by simp)); have n1_ := Aside0.mk (hb); have n2_ := Aside0.mk (hi); clear BK307; clear HB; clear HI310; have BK307 := n0_; have HB := n1_; have HI310 := n2_; clear n0_ n1_ n2_; (try clear hb); (try clear hb2); (try clear hk); (try clear hi)) | ((with_reducible refine gC_ (f := 35) rfl ?_); refine goesL_ (some 15) rfl rfl Tryd.func35 (by kernel_rfl) rfl #[.pointer (some ⟨g310, 0, none⟩), .int .i64 1024] rfl (by (try simp only [List.map_toArray, List.map_cons, List.map_nil]); first | done | rfl | (simp only [List.length_drop, List.length_take]; rfl)) ?_; (with_reducible refine (oR_Text.calls g310 t318 t319 1024 t320 t321 t322 w _ ?side1 ?side2 A6.out).mono ?_); (case side1 => repeat (first | (with_reducible first | exact HI310.out | apply J7.alloc | apply J7.drewN | apply J7.drew | apply J7.set_0 | apply J7.set_1 | refine J7.far ?_ NB310_307.out _) | exact HI310.out)); (case side2 => repeat (first | (with_reducible first | exact HB.out | apply bA_ | apply bN_ | apply bD_ | refine bS_ ?_ (J7.ge HI310.out) | refine bS_ ?_ GE307.out) | exact HB.out)); rintro e w34 ⟨rfl, hi, hb, hk⟩; refine ⟨_, rfl, ?_⟩; have n0_ := Aside0.mk (KeepBut.blk hk (g' := gb307) (o := .cells #[.string (⟨#[]⟩ : ByteArray), .string (⟨#[]⟩ : ByteArray), .string (⟨#[]⟩ : ByteArray), .int .i64 0, .string (⟨#[]⟩ : ByteArray)] 23 (0, 0)) (by (with_reducible repeat (first | refine kN_ ?_ _ | refine kD_ ?_ | refine kA_ ?_ _)); exact BK307.out) NB307_310.out (by simp)); have n1_ := Aside0.mk (hb); have n2_ := Aside0.mk (hi); clear BK307; clear HB; clear HI310; have BK307 := n0_; have HB := n1_; have HI310 := n2_; clear n0_ n1_ n2_; (try clear hb); (try clear hb2); (try clear hk); (try clear hi)) | ((with_reducible refine gC_ (f := 33) rfl ?_); refine goesL_ (some 17) rfl rfl Tryd.func33 (by kernel_rfl) rfl #[.pointer (some ⟨g310, 0, none⟩), .int .i64 5] rfl (by (try simp only [List.map_toArray, List.map_cons, List.map_nil]); first | done | rfl | (simp only [List.length_drop, List.length_take]; rfl)) ?_; (with_reducible refine (oR_Groups.calls k g310 t321 t322 5 t323 t324 t325 w _ ?side1 ?side2 A7.out).mono ?_); (case side1 => repeat (first | (with_reducible first | exact HI310.out | apply J7.alloc | apply J7.drewN | apply J7.drew | apply J7.set_0 | apply J7.set_1 | refine J7.far ?_ NB310_307.out _) | exact HI310.out)); (case side2 => repeat (first | (with_reducible first | exact HB.out | apply bA_ | apply bN_ | apply bD_ | refine bS_ ?_ (J7.ge HI310.out) | refine bS_ ?_ GE307.out) | exact HB.out)); rintro e w35 ⟨rfl, hi, hb, hk⟩; refine ⟨_, rfl, ?_⟩; have n0_ := Aside0.mk (KeepBut.blk hk (g' := gb307) (o := .cells #[.string (⟨#[]⟩ : ByteArray), .string (⟨#[]⟩ : ByteArray), .string (⟨#[]⟩ : ByteArray), .int .i64 0, .string (⟨#[]⟩ : ByteArray)] 23 (0, 0)) (by (with_reducible repeat (first | refine kN_ ?_ _ | refine kD_ ?_ | refine kA_ ?_ _)); exact BK307.out) NB307_310.out (by simp)); have n1_ := Aside0.mk (hb); have n2_ := Aside0.mk (hi); clear BK307; clear HB; clear HI310; have BK307 := n0_; have HB := n1_; have HI310 := n2_; clear n0_ n1_ n2_; (try clear hb); (try clear hb2); (try clear hk); (try clear hi)) | ((with_reducible refine gD_ (N := 5) rfl ?_); refine gB_ ?hg (N := 5) ?hd (cs := #[.string (⟨#[]⟩ : ByteArray), .string (⟨#[]⟩ : ByteArray), .string (⟨#[]⟩ : ByteArray), .int .i64 0, .string (⟨#[]⟩ : ByteArray)]) (t := 23) ?hr ?_; (case hd => rfl); (case hg => rfl); (case hr => first | (go_simp; done) | (go_simp; rfl)); intro gb326 hg w36 hbox hb; have n0_ := Aside0.mk (kB_ (g := gb307) (o := .cells #[.string (⟨#[]⟩ : ByteArray), .string (⟨#[]⟩ : ByteArray), .string (⟨#[]⟩ : ByteArray), .int .i64 0, .string (⟨#[]⟩ : ByteArray)] 23 (0, 0)) (by (with_reducible repeat (first | refine kN_ ?_ _ | refine kD_ ?_ | refine kA_ ?_ _)); exact BK307.out) hb); have n1_ := Aside0.mk (J7.below (by repeat (first | (with_reducible first | exact HI310.out | apply J7.alloc | apply J7.drewN | apply J7.drew | apply J7.set_0 | apply J7.set_1 | refine J7.far ?_ NB310_307.out _) | exact HI310.out)) hb); have n2_ := Aside0.mk (bT_ (by repeat (first | (with_reducible first | exact HB.out | apply bA_ | apply bN_ | apply bD_ | refine bS_ ?_ (J7.ge HI310.out) | refine bS_ ?_ GE307.out) | exact HB.out)) hb); have n3_ := Aside0.mk (hbox); have n4_ := Aside0.mk ((by rw [hg]; exact (bZ_ (by repeat (first | (with_reducible first | exact HB.out | apply bA_ | apply bN_ | apply bD_ | refine bS_ ?_ (J7.ge HI310.out) | refine bS_ ?_ GE307.out) | exact HB.out))) : w.heap.size ≤ gb326)); have n5_ := Aside0.mk ((by rw [hg]; exact (bZ_ (by repeat (first | (with_reducible first | exact HB.out | apply bA_ | apply bN_ | apply bD_ | refine bS_ ?_ (J7.ge HI310.out) | refine bS_ ?_ GE307.out) | exact HB.out))) : w.heap.size ≤ gb326)); have n6_ := Aside0.mk ((by rw [hg]; exact Nat.ne_of_lt (blk_lt (g := gb307) (o := .cells #[.string (⟨#[]⟩ : ByteArray), .string (⟨#[]⟩ : ByteArray), .string (⟨#[]⟩ : ByteArray), .int .i64 0, .string (⟨#[]⟩ : ByteArray)] 23 (0, 0)) (by (with_reducible repeat (first | refine kN_ ?_ _ | refine kD_ ?_ | refine kA_ ?_ _)); exact BK307.out)) : gb307 ≠ gb326)); have n7_ := Aside0.mk ((by rw [hg]; exact Nat.ne_of_gt (blk_lt (g := gb307) (o := .cells #[.string (⟨#[]⟩ : ByteArray), .string (⟨#[]⟩ : ByteArray), .string (⟨#[]⟩ : ByteArray), .int .i64 0, .string (⟨#[]⟩ : ByteArray)] 23 (0, 0)) (by (with_reducible repeat (first | refine kN_ ?_ _ | refine kD_ ?_ | refine kA_ ?_ _)); exact BK307.out)) : gb326 ≠ gb307)); have n8_ := Aside0.mk ((by rw [hg]; exact Nat.ne_of_lt (J7.lt (show J7 w _ g310 t324 t325 from by repeat (first | (with_reducible first | exact HI310.out | apply J7.alloc | apply J7.drewN | apply J7.drew | apply J7.set_0 | apply J7.set_1 | refine J7.far ?_ NB310_307.out _) | exact HI310.out))) : g310 ≠ gb326)); have n9_ := Aside0.mk ((by rw [hg]; exact Nat.ne_of_gt (J7.lt (show J7 w _ g310 t324 t325 from by repeat (first | (with_reducible first | exact HI310.out | apply J7.alloc | apply J7.drewN | apply J7.drew | apply J7.set_0 | apply J7.set_1 | refine J7.far ?_ NB310_307.out _) | exact HI310.out))) : gb326 ≠ g310)); clear BK307; clear HI310; clear HB; have BK307 := n0_; have HI310 := n1_; have HB := n2_; have BK326 := n3_; have GW326 := n4_; have GE326 := n5_; have NB307_326 := n6_; have NB326_307 := n7_; have NB310_326 := n8_; have NB326_310 := n9_; clear n0_ n1_ n2_ n3_ n4_ n5_ n6_ n7_ n8_ n9_; clear hb hbox hg; have hnb37 := NB326_307.out; have hnc37 := NB307_326.out; have hnb38 := NB326_310.out; have hnc38 := NB310_326.out; obtain ⟨_,_,_,_,_⟩ := cell5 BK326.out; obtain ⟨_,_,_,_,_⟩ := froz5 BK326.out) | ((with_reducible refine gC_ (f := 39) rfl ?_); refine goesL_ (some 20) rfl rfl Tryd.func39 (by kernel_rfl) rfl #[.pointer (some ⟨g310, 0, none⟩)] rfl (by (try simp only [List.map_toArray, List.map_cons, List.map_nil]); first | done | rfl | (simp only [List.length_drop, List.length_take]; rfl)) ?_; (with_reducible refine (oR_Done.calls g310 t324 t325 t327 t328 t329 w _ ?side1 ?side2 A8.out).mono ?_); (case side1 => repeat (first | (with_reducible first | exact HI310.out | apply J7.alloc | apply J7.drewN | apply J7.drew | apply J7.set_0 | apply J7.set_1 | refine J7.far ?_ NB310_307.out _ | refine J7.far ?_ NB310_326.out _) | exact HI310.out)); (case side2 => repeat (first | (with_reducible first | exact HB.out | apply bA_ | apply bN_ | apply bD_ | refine bS_ ?_ (J7.ge HI310.out) | refine bS_ ?_ GE307.out | refine bS_ ?_ GE326.out) | exact HB.out)); rintro e w40 ⟨rfl, hi, hb, hk⟩; refine ⟨_, rfl, ?_⟩; have n0_ := Aside0.mk (KeepBut.blk hk (g' := gb307) (o := .cells #[.string (⟨#[]⟩ : ByteArray), .string (⟨#[]⟩ : ByteArray), .string (⟨#[]⟩ : ByteArray), .int .i64 0, .string (⟨#[]⟩ : ByteArray)] 23 (0, 0)) (by (with_reducible repeat (first | refine kN_ ?_ _ | refine kD_ ?_ | refine kA_ ?_ _)); refine kF_ ?_ NB307_326.out _; (with_reducible repeat (first | refine kN_ ?_ _ | refine kD_ ?_ | refine kA_ ?_ _)); refine kF_ ?_ NB307_326.out _; (with_reducible repeat (first | refine kN_ ?_ _ | refine kD_ ?_ | refine kA_ ?_ _)); refine kF_ ?_ NB307_326.out _; (with_reducible repeat (first | refine kN_ ?_ _ | refine kD_ ?_ | refine kA_ ?_ _)); refine kF_ ?_ NB307_326.out _; (with_reducible repeat (first | refine kN_ ?_ _ | refine kD_ ?_ | refine kA_ ?_ _)); refine kF_ ?_ NB307_326.out _; (with_reducible repeat (first | refine kN_ ?_ _ | refine kD_ ?_ | refine kA_ ?_ _)); exact BK307.out) NB307_310.out (by simp)); have n1_ := Aside0.mk (KeepBut.blk hk (g' := gb326) (o := .cells #[.string t311, .string t314, .string t317, .int .i64 t323, .string t320] 23 (0, 0)) (by (with_reducible repeat (first | refine kN_ ?_ _ | refine kD_ ?_ | refine kA_ ?_ _)); refine blk_p5_0_4 (show _ = some (Obj.cells #[.string (⟨#[]⟩ : ByteArray), .string (⟨#[]⟩ : ByteArray), .string (⟨#[]⟩ : ByteArray), .int .i64 0, .string (⟨#[]⟩ : ByteArray)] _ (0, 0)) from ?_); (with_reducible repeat (first | refine kN_ ?_ _ | refine kD_ ?_ | refine kA_ ?_ _)); exact BK326.out) NB326_310.out (by simp)); have n2_ := Aside0.mk (hb); have n3_ := Aside0.mk (hi); clear BK307; clear BK326; clear HB; clear HI310; have BK307 := n0_; have BK326 := n1_; have HB := n2_; have HI310 := n3_; clear n0_ n1_ n2_ n3_; (try clear hb); (try clear hb2); (try clear hk); (try clear hi); obtain ⟨_,_,_,_,_⟩ := cell5 BK326.out; obtain ⟨_,_,_,_,_⟩ := froz5 BK326.out) | (go_at_call 46; (with_reducible refine (norm_Check.calls k t311 t314 t317 t323 t320 t330 _ A10.out).mono ?_); rintro e w42 ⟨rfl, hb⟩; have n0_ := Aside0.mk (kB_ (g := gb307) (o := .cells #[.string (⟨#[]⟩ : ByteArray), .string (⟨#[]⟩ : ByteArray), .string (⟨#[]⟩ : ByteArray), .int .i64 0, .string (⟨#[]⟩ : ByteArray)] 23 (0, 0)) (by (with_reducible repeat (first | refine kN_ ?_ _ | refine kD_ ?_ | refine kA_ ?_ _)); exact BK307.out) hb); have n1_ := Aside0.mk (J7.below (by repeat (first | (with_reducible first | exact HI310.out | apply J7.alloc | apply J7.drewN | apply J7.drew | apply J7.set_0 | apply J7.set_1 | refine J7.far ?_ NB310_307.out _ | refine J7.far ?_ NB310_326.out _) | exact HI310.out)) hb); have n2_ := Aside0.mk (kB_ (g := gb326) (o := .cells #[.string t311, .string t314, .string t317, .int .i64 t323, .string t320] 23 (0, 0)) (by (with_reducible repeat (first | refine kN_ ?_ _ | refine kD_ ?_ | refine kA_ ?_ _)); exact BK326.out) hb); have n3_ := Aside0.mk (bT_ (by repeat (first | (with_reducible first | exact HB.out | apply bA_ | apply bN_ | apply bD_ | refine bS_ ?_ (J7.ge HI310.out) | refine bS_ ?_ GE307.out | refine bS_ ?_ GE326.out) | exact HB.out)) hb); clear BK307; clear HI310; clear BK326; clear HB; have BK307 := n0_; have HI310 := n1_; have BK326 := n2_; have HB := n3_; clear n0_ n1_ n2_ n3_; (try clear hb); (try clear hb2); (try clear hk); (try clear hi); have hnb43 := NB307_310.out; have hnc43 := NB310_307.out; obtain ⟨_,_,_,_,_⟩ := cell5 BK307.out; obtain ⟨_,_,_,_,_⟩ := froz5 BK307.out))
   refine bodyPost_ret (results_ct rfl _ _ gb307 23 #[.string (⟨#[]⟩ : ByteArray), .string (⟨#[]⟩ : ByteArray), .string (⟨#[]⟩ : ByteArray), .int .i64 0, .string (⟨#[]⟩ : ByteArray)] (0, 0) _ rfl (by (with_reducible repeat (first | refine kN_ ?_ _ | refine kD_ ?_ | refine kA_ ?_ _)); refine blk_p5_0_4 (show _ = some (Obj.cells #[.string (⟨#[]⟩ : ByteArray), .string (⟨#[]⟩ : ByteArray), .string (⟨#[]⟩ : ByteArray), .int .i64 0, .string (⟨#[]⟩ : ByteArray)] _ (0, 0)) from ?_); (with_reducible repeat (first | refine kN_ ?_ _ | refine kD_ ?_ | refine kA_ ?_ _)); exact BK307.out) Tryd.underlying23 rfl (by kernel_rfl)) rfl ?_
   exact ⟨by first | rfl | (simp [errW_none, errW_some] <;> rfl) | (simp [*, errW_none, errW_some] <;> rfl), by repeat (first | (with_reducible first | exact HB.out | apply bA_ | apply bN_ | apply bD_ | refine bS_ ?_ (J7.ge HI310.out) | refine bS_ ?_ GE307.out | refine bS_ ?_ GE326.out) | exact HB.out)⟩
 ·rw [if_neg c9] at H
  have c9b0 : (t327 == 0) = false := beq_eq_false_iff_ne.mpr c9
  have c9b1 : (t327 != 0) = true := bne_iff_ne.mpr c9
  simp only [Option.some.injEq, Prod.mk.injEq] at H
  obtain ⟨rfl, rfl, rfl, rfl, rfl, rfl⟩ := H
  go_enter Tryd.func36, Tryd.ntmps36
  go_wp2_with (first | ((with_reducible refine gD_ (N := 2) rfl ?_); refine gB_ ?hg (N := 2) ?hd (cs := #[.string (⟨#[]⟩ : ByteArray), .string (⟨#[]⟩ : ByteArray), .string (⟨#[]⟩ : ByteArray), .int .i64 0, .string (⟨#[]⟩ : ByteArray)]) (t := 23) ?hr ?_; (case hd => rfl); (case hg => rfl); (case hr => first | (go_simp; done) | (go_simp; rfl)); intro gb307 hg w45 hbox hb; have n0_ := Aside0.mk (bT_ (by repeat (first | (with_reducible first | exact HB.out | apply bA_ | apply bN_ | apply bD_) | exact HB.out)) hb); have n1_ := Aside0.mk (hbox); have n2_ := Aside0.mk ((by rw [hg]; exact (bZ_ (by repeat (first | (with_reducible first | exact HB.out | apply bA_ | apply bN_ | apply bD_) | exact HB.out))) : w.heap.size ≤ gb307)); have n3_ := Aside0.mk ((by rw [hg]; exact (bZ_ (by repeat (first | (with_reducible first | exact HB.out | apply bA_ | apply bN_ | apply bD_) | exact HB.out))) : w.heap.size ≤ gb307)); clear HB; have HB := n0_; have BK307 := n1_; have GW307 := n2_; have GE307 := n3_; clear n0_ n1_ n2_ n3_; clear hb hbox hg) | ((with_reducible refine gC_ (f := 56) rfl ?_); refine goesL_ (some 7) rfl rfl Tryd.func56 (by kernel_rfl) rfl #[.string a0] rfl (by (try simp only [List.map_toArray, List.map_cons, List.map_nil]); first | done | rfl | (simp only [List.length_drop, List.length_take]; rfl)) ?_; (with_reducible refine (octet_Read.calls a0 t308 t309 w _ ?side1 A2.out).mono ?_); (case side1 => repeat (first | (with_reducible first | exact HB.out | apply bA_ | apply bN_ | apply bD_ | refine bS_ ?_ GE307.out) | exact HB.out)); rintro e w46 ⟨g310, rfl, hi, hb, hb2⟩; refine ⟨_, rfl, ?_⟩; have n0_ := Aside0.mk (kB_ (g := gb307) (o := .cells #[.string (⟨#[]⟩ : ByteArray), .string (⟨#[]⟩ : ByteArray), .string (⟨#[]⟩ : ByteArray), .int .i64 0, .string (⟨#[]⟩ : ByteArray)] 23 (0, 0)) (by (with_reducible repeat (first | refine kN_ ?_ _ | refine kD_ ?_ | refine kA_ ?_ _)); exact BK307.out) hb2); have n1_ := Aside0.mk (hb); have n2_ := Aside0.mk (hi); have n3_ := Aside0.mk (J7.ne_blk hi (kB_ (g := gb307) (o := .cells #[.string (⟨#[]⟩ : ByteArray), .string (⟨#[]⟩ : ByteArray), .string (⟨#[]⟩ : ByteArray), .int .i64 0, .string (⟨#[]⟩ : ByteArray)] 23 (0, 0)) (by (with_reducible repeat (first | refine kN_ ?_ _ | refine kD_ ?_ | refine kA_ ?_ _)); exact BK307.out) hb2) (by decide)); have n4_ := Aside0.mk (Ne.symm (J7.ne_blk hi (kB_ (g := gb307) (o := .cells #[.string (⟨#[]⟩ : ByteArray), .string (⟨#[]⟩ : ByteArray), .string (⟨#[]⟩ : ByteArray), .int .i64 0, .string (⟨#[]⟩ : ByteArray)] 23 (0, 0)) (by (with_reducible repeat (first | refine kN_ ?_ _ | refine kD_ ?_ | refine kA_ ?_ _)); exact BK307.out) hb2) (by decide))); clear BK307; clear HB; have BK307 := n0_; have HB := n1_; have HI310 := n2_; have NB310_307 := n3_; have NB307_310 := n4_; clear n0_ n1_ n2_ n3_ n4_; (try clear hb); (try clear hb2); (try clear hk); (try clear hi)) | ((with_reducible refine gC_ (f := 35) rfl ?_); refine goesL_ (some 9) rfl rfl Tryd.func35 (by kernel_rfl) rfl #[.pointer (some ⟨g310, 0, none⟩), .int .i64 64] rfl (by (try simp only [List.map_toArray, List.map_cons, List.map_nil]); first | done | rfl | (simp only [List.length_drop, List.length_take]; rfl)) ?_; (with_reducible refine (oR_Text.calls g310 t308 t309 64 t311 t312 t313 w _ ?side1 ?side2 A3.out).mono ?_); (case side1 => repeat (first | (with_reducible first | exact HI310.out | apply J7.alloc | apply J7.drewN | apply J7.drew | apply J7.set_0 | apply J7.set_1 | refine J7.far ?_ NB310_307.out _) | exact HI310.out)); (case side2 => repeat (first | (with_reducible first | exact HB.out | apply bA_ | apply bN_ | apply bD_ | refine bS_ ?_ (J7.ge HI310.out) | refine bS_ ?_ GE307.out) | exact HB.out)); rintro e w47 ⟨rfl, hi, hb, hk⟩; refine ⟨_, rfl, ?_⟩; have n0_ := Aside0.mk (KeepBut.blk hk (g' := gb307) (o := .cells #[.string (⟨#[]⟩ : ByteArray), .string (⟨#[]⟩ : ByteArray), .string (⟨#[]⟩ : ByteArray), .int .i64 0, .string (⟨#[]⟩ : ByteArray)] 23 (0, 0)) (by (with_reducible repeat (first | refine kN_ ?_ _ | refine kD_ ?_ | refine kA_ ?_ _)); exact BK307.out) NB307_310.out (by simp)); have n1_ := Aside0.mk (hb); have n2_ := Aside0.mk (hi); clear BK307; clear HB; clear HI310; have BK307 := n0_; have HB := n1_; have HI310 := n2_; clear n0_ n1_ n2_; (try clear hb); (try clear hb2); (try clear hk); (try clear hi)) | ((with_reducible refine gC_ (f := 35) rfl ?_); refine goesL_ (some 11) rfl rfl Tryd.func35 (by kernel_rfl) rfl #[.pointer (some ⟨g310, 0, none⟩), .int .i64 64] rfl (by (try simp only [List.map_toArray, List.map_cons, List.map_nil]); first | done | rfl | (simp only [List.length_drop, List.length_take]; rfl)) ?_; (with_reducible refine (oR_Text.calls g310 t312 t313 64 t314 t315 t316 w _ ?side1 ?side2 A4.out).mono ?_); (case side1 => repeat (first | (with_reducible first | exact HI310.out | apply J7.alloc | apply J7.drewN | apply J7.drew | apply J7.set_0 | apply J7.set_1 | refine J7.far ?_ NB310_307.out _) | exact HI310.out)); (case side2 => repeat (first | (with_reducible first | exact HB.out | apply bA_ | apply bN_ | apply bD_ | refine bS_ ?_ (J7.ge HI310.out) | refine bS_ ?_ GE307.out) | exact HB.out)); rintro e w48 ⟨rfl, hi, hb, hk⟩; refine ⟨_, rfl, ?_⟩; have n0_ := Aside0.mk (KeepBut.blk hk (g' := gb307) (o := .cells #[.string (⟨#[]⟩ : ByteArray), .string (⟨#[]⟩ : ByteArray), .string (⟨#[]⟩ : ByteArray), .int .i64 0, .string (⟨#[]⟩ : ByteArray)] 23 (0, 0)) (by (with_reducible repeat (first | refine kN_ ?_ _ | refine kD_ ?_ | refine kA_ ?_ _)); exact BK307.out) NB307_310.out (by simp)); have n1_ := Aside0.mk (hb); have n2_ := Aside0.mk (hi); clear BK307; clear HB; clear HI310; have BK307 := n0_; have HB := n1_; have HI310 := n2_; clear n0_ n1_ n2_; (try clear hb); (try clear hb2); (try clear hk); (try clear hi)) | ((with_reducible refine gC_ (f := 35) rfl ?_); refine goesL_ (some 13) rfl rfl Tryd.func35 (by kernel_rfl) rfl #[.pointer (some ⟨g310, 0, none⟩), .int .i64 128] rfl (by (try simp only [List.map_toArray, List.map_cons, List.map_nil]); first | done | rfl | (simp only [List.length_drop, List.length_take]; rfl)) ?_; (with_reducible refine (oR_Text.calls g310 t315 t316 128 t317 t318 t319 w _ ?side1 ?side2 A5.out).mono ?_); (case side1 => repeat (first | (with_reducible first | exact HI310.out | apply J7.alloc | apply J7.drewN | apply J7.drew | apply J7.set_0 | apply J7.set_1 | refine J7.far ?_ NB310_307.out _) | exact HI310.out)); (case side2 => repeat (first | (with_reducible first | exact HB.out | apply bA_ | apply bN_ | apply bD_ | refine bS_ ?_ (J7.ge HI310.out) | refine bS_ ?_ GE307.out) | exact HB.out)); rintro e w49 ⟨rfl, hi, hb, hk⟩; refine ⟨_, rfl, ?_⟩; have n0_ := Aside0.mk (KeepBut.blk hk (g' := gb307) (o := .cells #[.string (⟨#[]⟩ : ByteArray), .string (⟨#[]⟩ : ByteArray), .string (⟨#[]⟩ : ByteArray), .int .i64 0, .string (⟨#[]⟩ : ByteArray)] 23 (0, 0)) (by (with_reducible repeat (first | refine kN_ ?_ _ | refine kD_ ?_ | refine kA_ ?_ _)); exact BK307.out) NB307_310.out (by simp)); have n1_ := Aside0.mk (hb); have n2_ := Aside0.mk (hi); clear BK307; clear HB; clear HI310; have BK307 := n0_; have HB := n1_; have HI310 := n2_; clear n0_ n1_ n2_; (try clear hb); (try clear hb2); (try clear hk); (try clear hi)) | ((with_reducible refine gC_ (f := 35) rfl ?_); refine goesL_ (some 15) rfl rfl Tryd.func35 (by kernel_rfl) rfl #[.pointer (some ⟨g310, 0, none⟩), .int .i64 1024] rfl (by (try simp only [List.map_toArray, List.map_cons, List.map_nil]); first | done | rfl | (simp only [List.length_drop, List.length_take]; rfl)) ?_; (with_reducible refine (oR_Text.calls g310 t318 t319 1024 t320 t321 t322 w _ ?side1 ?side2 A6.out).mono ?_); (case side1 => repeat (first | (with_reducible first | exact HI310.out | apply J7.alloc | apply J7.drewN | apply J7.drew | apply J7.set_0 | apply J7.set_1 | refine J7.far ?_ NB310_307.out _) | exact HI310.out)); (case side2 => repeat (first | (with_reducible first | exact HB.out | apply bA_ | apply bN_ | apply bD_ | refine bS_ ?_ (J7.ge HI310.out) | refine bS_ ?_ GE307.out) | exact HB.out)); rintro e w50 ⟨rfl, hi, hb, hk⟩; refine ⟨_, rfl, ?_⟩; have n0_ := Aside0.mk (KeepBut.blk hk (g' := gb307) (o := .cells #[.string (⟨#[]⟩ : ByteArray), .string (⟨#[]⟩ : ByteArray), .string (⟨#[]⟩ : ByteArray), .int .i64 0, .string (⟨#[]⟩ : ByteArray)] 23 (0, 0)) (by (with_reducible repeat (first | refine kN_ ?_ _ | refine kD_ ?_ | refine kA_ ?_ _)); exact BK307.out) NB307_310.out (by simp)); have n1_ := Aside0.mk (hb); have n2_ := Aside0.mk (hi); clear BK307; clear HB; clear HI310; have BK307 := n0_; have HB := n1_; have HI310 := n2_; clear n0_ n1_ n2_; (try clear hb); (try clear hb2); (try clear hk); (try clear hi)) | ((with_reducible refine gC_ (f := 33) rfl ?_); refine goesL_ (some 17) rfl rfl Tryd.func33 (by kernel_rfl) rfl #[.pointer (some ⟨g310, 0, none⟩), .int .i64 5] rfl (by (try simp only [List.map_toArray, List.map_cons, List.map_nil]); first | done | rfl | (simp only [List.length_drop, List.length_take]; rfl)) ?_; (with_reducible refine (oR_Groups.calls k g310 t321 t322 5 t323 t324 t325 w _ ?side1 ?side2 A7.out).mono ?_); (case side1 => repeat (first | (with_reducible first | exact HI310.out | apply J7.alloc | apply J7.drewN | apply J7.drew | apply J7.set_0 | apply J7.set_1 | refine J7.far ?_ NB310_307.out _) | exact HI310.out)); (case side2 => repeat (first | (with_reducible first | exact HB.out | apply bA_ | apply bN_ | apply bD_ | refine bS_ ?_ (J7.ge HI310.out) | refine bS_ ?_ GE307.out) | exact HB.out)); rintro e w51 ⟨rfl, hi, hb, hk⟩; refine ⟨_, rfl, ?_⟩; have n0_ := Aside0.mk (KeepBut.blk hk (g' := gb307) (o := .cells #[.string (⟨#[]⟩ : ByteArray), .string (⟨#[]⟩ : ByteArray), .string (⟨#[]⟩ : ByteArray), .int .i64 0, .string (⟨#[]⟩ : ByteArray)] 23 (0, 0)) (by (with_reducible repeat (first | refine kN_ ?_ _ | refine kD_ ?_ | refine kA_ ?_ _)); exact BK307.out) NB307_310.out (by simp)); have n1_ := Aside0.mk (hb); have n2_ := Aside0.mk (hi); clear BK307; clear HB; clear HI310; have BK307 := n0_; have HB := n1_; have HI310 := n2_; clear n0_ n1_ n2_; (try clear hb); (try clear hb2); (try clear hk); (try clear hi)) | ((with_reducible refine gD_ (N := 5) rfl ?_); refine gB_ ?hg (N := 5) ?hd (cs := #[.string (⟨#[]⟩ : ByteArray), .string (⟨#[]⟩ : ByteArray), .string (⟨#[]⟩ : ByteArray), .int .i64 0, .string (⟨#[]⟩ : ByteArray)]) (t := 23) ?hr ?_; (case hd => rfl); (case hg => rfl); (case hr => first | (go_simp; done) | (go_simp; rfl)); intro gb326 hg w52 hbox hb; have n0_ := Aside0.mk (kB_ (g := gb307) (o := .cells #[.string (⟨#[]⟩ : ByteArray), .string (⟨#[]⟩ : ByteArray), .string (⟨#[]⟩ : ByteArray), .int .i64 0, .string (⟨#[]⟩ : ByteArray)] 23 (0, 0)) (by (with_reducible repeat (first | refine kN_ ?_ _ | refine kD_ ?_ | refine kA_ ?_ _)); exact BK307.out) hb); have n1_ := Aside0.mk (J7.below (by repeat (first | (with_reducible first | exact HI310.out | apply J7.alloc | apply J7.drewN | apply J7.drew | apply J7.set_0 | apply J7.set_1 | refine J7.far ?_ NB310_307.out _) | exact HI310.out)) hb); have n2_ := Aside0.mk (bT_ (by repeat (first | (with_reducible first | exact HB.out | apply bA_ | apply bN_ | apply bD_ | refine bS_ ?_ (J7.ge HI310.out) | refine bS_ ?_ GE307.out) | exact HB.out)) hb); have n3_ := Aside0.mk (hbox); have n4_ := Aside0.mk ((by rw [hg]; exact (bZ_ (by repeat (first | (with_reducible first | exact HB.out | apply bA_ | apply bN_ | apply bD_ | refine bS_ ?_ (J7.ge HI310.out) | refine bS_ ?_ GE307.out) | exact HB.out))) : w.heap.size ≤ gb326)); have n5_ := Aside0.mk ((by rw [hg]; exact (bZ_ (by repeat (first | (with_reducible first | exact HB.out | apply bA_ | apply bN_ | apply bD_ | refine bS_ ?_ (J7.ge HI310.out) | refine bS_ ?_ GE307.out) | exact HB.out))) : w.heap.size ≤ gb326)); have n6_ := Aside0.mk ((by rw [hg]; exact Nat.ne_of_lt (blk_lt (g := gb307) (o := .cells #[.string (⟨#[]⟩ : ByteArray), .string (⟨#[]⟩ : ByteArray), .string (⟨#[]⟩ : ByteArray), .int .i64 0, .string (⟨#[]⟩ : ByteArray)] 23 (0, 0)) (by (with_reducible repeat (first | refine kN_ ?_ _ | refine kD_ ?_ | refine kA_ ?_ _)); exact BK307.out)) : gb307 ≠ gb326)); have n7_ := Aside0.mk ((by rw [hg]; exact Nat.ne_of_gt (blk_lt (g := gb307) (o := .cells #[.string (⟨#[]⟩ : ByteArray), .string (⟨#[]⟩ : ByteArray), .string (⟨#[]⟩ : ByteArray), .int .i64 0, .string (⟨#[]⟩ : ByteArray)] 23 (0, 0)) (by (with_reducible repeat (first | refine kN_ ?_ _ | refine kD_ ?_ | refine kA_ ?_ _)); exact BK307.out)) : gb326 ≠ gb307)); have n8_ := Aside0.mk ((by rw [hg]; exact Nat.ne_of_lt (J7.lt (show J7 w _ g310 t324 t325 from by repeat (first | (with_reducible first | exact HI310.out | apply J7.alloc | apply J7.drewN | apply J7.drew | apply J7.set_0 | apply J7.set_1 | refine J7.far ?_ NB310_307.out _) | exact HI310.out))) : g310 ≠ gb326)); have n9_ := Aside0.mk ((by rw [hg]; exact Nat.ne_of_gt (J7.lt (show J7 w _ g310 t324 t325 from by repeat (first | (with_reducible first | exact HI310.out | apply J7.alloc | apply J7.drewN | apply J7.drew | apply J7.set_0 | apply J7.set_1 | refine J7.far ?_ NB310_307.out _) | exact HI310.out))) : gb326 ≠ g310)); clear BK307; clear HI310; clear HB; have BK307 := n0_; have HI310 := n1_; have HB := n2_; have BK326 := n3_; have GW326 := n4_; have GE326 := n5_; have NB307_326 := n6_; have NB326_307 := n7_; have NB310_326 := n8_; have NB326_310 := n9_; clear n0_ n1_ n2_ n3_ n4_ n5_ n6_ n7_ n8_ n9_; clear hb hbox hg; have hnb53 := NB326_307.out; have hnc53 := NB307_326.out; have hnb54 := NB326_310.out; have hnc54 := NB310_326.out; obtain ⟨_,_,_,_,_⟩ := cell5 BK326.out; obtain ⟨_,_,_,_,_⟩ := froz5 BK326.out) | ((with_reducible refine gC_ (f := 39) rfl ?_); refine goesL_ (some 20) rfl rfl Tryd.func39 (by kernel_rfl) rfl #[.pointer (some ⟨g310, 0, none⟩)] rfl (by (try simp only [List.map_toArray, List.map_cons, List.map_nil]); first | done | rfl | (simp only [List.length_drop, List.length_take]; rfl)) ?_; (with_reducible refine (oR_Done.calls g310 t324 t325 t327 t328 t329 w _ ?side1 ?side2 A8.out).mono ?_); (case side1 => repeat (first | (with_reducible first | exact HI310.out | apply J7.alloc | apply J7.drewN | apply J7.drew | apply J7.set_0 | apply J7.set_1 | refine J7.far ?_ NB310_307.out _ | refine J7.far ?_ NB310_326.out _) | exact HI310.out)); (case side2 => repeat (first | (with_reducible first | exact HB.out | apply bA_ | apply bN_ | apply bD_ | refine bS_ ?_ (J7.ge HI310.out) | refine bS_ ?_ GE307.out | refine bS_ ?_ GE326.out) | exact HB.out)); rintro e w56 ⟨rfl, hi, hb, hk⟩; refine ⟨_, rfl, ?_⟩; have n0_ := Aside0.mk (KeepBut.blk hk (g' := gb307) (o := .cells #[.string (⟨#[]⟩ : ByteArray), .string (⟨#[]⟩ : ByteArray), .string (⟨#[]⟩ : ByteArray), .int .i64 0, .string (⟨#[]⟩ : ByteArray)] 23 (0, 0)) (by (with_reducible repeat (first | refine kN_ ?_ _ | refine kD_ ?_ | refine kA_ ?_ _)); refine kF_ ?_ NB307_326.out _; (with_reducible repeat (first | refine kN_ ?_ _ | refine kD_ ?_ | refine kA_ ?_ _)); refine kF_ ?_ NB307_326.out _; (with_reducible repeat (first | refine kN_ ?_ _ | refine kD_ ?_ | refine kA_ ?_ _)); refine kF_ ?_ NB307_326.out _; (with_reducible repeat (first | refine kN_ ?_ _ | refine kD_ ?_ | refine kA_ ?_ _)); refine kF_ ?_ NB307_326.out _; (with_reducible repeat (first | refine kN_ ?_ _ | refine kD_ ?_ | refine kA_ ?_ _)); refine kF_ ?_ NB307_326.out _; (with_reducible repeat (first | refine kN_ ?_ _ | refine kD_ ?_ | refine kA_ ?_ _)); exact BK307.out) NB307_310.out (by simp)); have n1_ := Aside0.mk (KeepBut.blk hk (g' := gb326) (o := .cells #[.string t311, .string t314, .string t317, .int .i64 t323, .string t320] 23 (0, 0)) (by (with_reducible repeat (first | refine kN_ ?_ _ | refine kD_ ?_ | refine kA_ ?_ _)); refine blk_p5_0_4 (show _ = some (Obj.cells #[.string (⟨#[]⟩ : ByteArray), .string (⟨#[]⟩ : ByteArray), .string (⟨#[]⟩ : ByteArray), .int .i64 0, .string (⟨#[]⟩ : ByteArray)] _ (0, 0)) from ?_); (with_reducible repeat (first | refine kN_ ?_ _ | refine kD_ ?_ | refine kA_ ?_ _)); exact BK326.out) NB326_310.out (by simp)); have n2_ := Aside0.mk (hb); have n3_ := Aside0.mk (hi); clear BK307; clear BK326; clear HB; clear HI310; have BK307 := n0_; have BK326 := n1_; have HB := n2_; have HI310 := n3_; clear n0_ n1_ n2_ n3_; (try clear hb); (try clear hb2); (try clear hk); (try clear hi); have hnb57 := NB307_310.out; have hnc57 := NB310_307.out; obtain ⟨_,_,_,_,_⟩ := cell5 BK307.out; obtain ⟨_,_,_,_,_⟩ := froz5 BK307.out))
  refine bodyPost_ret (results_ct rfl _ _ gb307 23 #[.string (⟨#[]⟩ : ByteArray), .string (⟨#[]⟩ : ByteArray), .string (⟨#[]⟩ : ByteArray), .int .i64 0, .string (⟨#[]⟩ : ByteArray)] (0, 0) _ rfl (by (with_reducible repeat (first | refine kN_ ?_ _ | refine kD_ ?_ | refine kA_ ?_ _)); refine blk_p5_0_4 (show _ = some (Obj.cells #[.string (⟨#[]⟩ : ByteArray), .string (⟨#[]⟩ : ByteArray), .string (⟨#[]⟩ : ByteArray), .int .i64 0, .string (⟨#[]⟩ : ByteArray)] _ (0, 0)) from ?_); (with_reducible repeat (first | refine kN_ ?_ _ | refine kD_ ?_ | refine kA_ ?_ _)); exact BK307.out) Tryd.underlying23 rfl (by kernel_rfl)) rfl ?_
  exact ⟨by first | rfl | (simp [errW_none, errW_some] <;> rfl) | (simp [*, errW_none, errW_some] <;> rfl), by repeat (first | (with_reducible first | exact HB.out | apply bA_ | apply bN_ | apply bD_ | refine bS_ ?_ (J7.ge HI310.out) | refine bS_ ?_ GE307.out | refine bS_ ?_ GE326.out) | exact HB.out)⟩
def oR_Left.f (s0_0 : ByteArray) (s0_1 : Int) : Option (Int × ByteArray × Int) := some ((s0_0.size : Int), s0_0, s0_1)
set_option maxHeartbeats 8000000 in
set_option maxRecDepth 100000 in
theorem oR_Left.calls (g : Nat) (s0_0 : ByteArray) (s0_1 : Int) (r1 : Int) (r2 : ByteArray) (r3 : Int) (w0 w : World) (hI : J7 w0 w g s0_0 s0_1) (hB : Below w0.heap.size w0 w) (h : oR_Left.f s0_0 s0_1 = some (r1, r2, r3)) :
  Calls Tryd.prog 38 #[.pointer (some ⟨g, 0, none⟩)] w fun e w' => e = .returned (.int .i64 r1) ∧ J7 w0 w' g r2 r3 ∧ Below w0.heap.size w0 w' ∧ KeepBut w w' g none := by
 have HI0 := Aside0.mk hI
 have HK := Aside0.mk (KeepBut.refl w g none)
 have HL := Aside0.mk hB.size
 clear hI
 have HW0 := Aside0.mk hB.size
 have HB := Aside0.mk hB
 clear hB
 have H : (some ((s0_0.size : Int), s0_0, s0_1)) = some (r1, r2, r3) := h
 clear h
 simp only [Option.some.injEq, Prod.mk.injEq] at H
 obtain ⟨rfl, rfl, rfl⟩ := H
 obtain ⟨HGz2, hgz2⟩ := HI0.out
 have hcz2_0 := cellS77_0 HGz2
 have hcz2_1 := cellS77_1 HGz2
 have hfz2_0 := blk_frozen HGz2 0
 have hfz2_1 := blk_frozen HGz2 1
 clear HGz2 hgz2
 go_enter Tryd.func38, Tryd.ntmps38
 go_wp2
 go_ret
 exact ⟨by first | rfl | (simp [errW_none, errW_some] <;> rfl) | (simp [*, errW_none, errW_some] <;> rfl), by repeat (first | (with_reducible first | exact HI0.out | apply J7.alloc | apply J7.drewN | apply J7.drew | apply J7.set_0 | apply J7.set_1) | exact HI0.out), by repeat (first | (with_reducible first | exact HB.out | apply bA_ | apply bN_ | apply bD_ | refine bS_ ?_ (J7.ge HI0.out)) | exact HB.out), by repeat (first | (with_reducible first | exact HK.out | apply KeepBut.set_ | apply pN_ | apply pD_ | apply pA_) | exact HK.out)⟩
def ticket_Decode.f (k : Nat) (a0 : ByteArray) : Option (Int × Int × Int × ByteArray × ByteArray × ByteArray × Int × ByteArray × Int × Int × Int × Bool × ByteArray × Int) := (ticket_open.f a0 (⟨#[71]⟩ : ByteArray)).bind fun bt332 => (if bt332.2.2 = true then ((oR_Groups.f k bt332.1 bt332.2.1 1152921504606846976).bind fun bt336 => ((oR_Wide.f bt336.2.1 bt336.2.2 1).bind fun bt339 => ((oR_Groups.f k bt339.2.1 bt339.2.2 9223372036854775807).bind fun bt343 => ((oR_Groups.f k bt343.2.1 bt343.2.2 1099511627776).bind fun bt346 => ((oR_Groups.f k bt346.2.1 bt346.2.2 2305843009213693952).bind fun bt349 => ((oR_Groups.f k bt349.2.1 bt349.2.2 2305843009213693952).bind fun bt352 => ((oR_Wide.f bt352.2.1 bt352.2.2 1).bind fun bt355 => ((oR_Text.f bt355.2.1 bt355.2.2 64).bind fun bt358 => ((oR_Left.f bt358.2.1 bt358.2.2).bind fun bt361 => ((oR_Bytes.f bt361.2.1 bt361.2.2 bt361.1).bind fun bt364 => ((norm_Decode.f k bt364.1).bind fun bt367 => ((oR_Done.f bt364.2.1 bt364.2.2).bind fun bt374 => (if bt374.1 = 0 then (if bt367.2.2.2.2.2 = 0 then (if bt355.1 > 1 then (some (0, 0, 0, (⟨#[]⟩ : ByteArray), (⟨#[]⟩ : ByteArray), (⟨#[]⟩ : ByteArray), 0, (⟨#[]⟩ : ByteArray), 0, 0, 0, false, (⟨#[]⟩ : ByteArray), 230)) else ((ticket_Check.f k bt336.1 bt339.1 bt343.1 bt367.1 bt367.2.1 bt367.2.2.1 bt367.2.2.2.1 bt367.2.2.2.2.1 bt346.1 bt349.1 bt352.1 (bt355.1 == 1) bt358.1).bind fun t377 => (if t377 = 0 then (some (bt336.1, bt339.1, bt343.1, bt367.1, bt367.2.1, bt367.2.2.1, bt367.2.2.2.1, bt367.2.2.2.2.1, bt346.1, bt349.1, bt352.1, (bt355.1 == 1), bt358.1, 0)) else (some (0, 0, 0, (⟨#[]⟩ : ByteArray), (⟨#[]⟩ : ByteArray), (⟨#[]⟩ : ByteArray), 0, (⟨#[]⟩ : ByteArray), 0, 0, 0, false, (⟨#[]⟩ : ByteArray), 230))))) else (some (0, 0, 0, (⟨#[]⟩ : ByteArray), (⟨#[]⟩ : ByteArray), (⟨#[]⟩ : ByteArray), 0, (⟨#[]⟩ : ByteArray), 0, 0, 0, false, (⟨#[]⟩ : ByteArray), 230))) else (some (0, 0, 0, (⟨#[]⟩ : ByteArray), (⟨#[]⟩ : ByteArray), (⟨#[]⟩ : ByteArray), 0, (⟨#[]⟩ : ByteArray), 0, 0, 0, false, (⟨#[]⟩ : ByteArray), 230))))))))))))))) else (some (0, 0, 0, (⟨#[]⟩ : ByteArray), (⟨#[]⟩ : ByteArray), (⟨#[]⟩ : ByteArray), 0, (⟨#[]⟩ : ByteArray), 0, 0, 0, false, (⟨#[]⟩ : ByteArray), 230)))
set_option maxHeartbeats 8000000 in
set_option maxRecDepth 100000 in
theorem ticket_Decode.calls (k : Nat) (a0 : ByteArray) (r1 : Int) (r2 : Int) (r3 : Int) (r4 : ByteArray) (r5 : ByteArray) (r6 : ByteArray) (r7 : Int) (r8 : ByteArray) (r9 : Int) (r10 : Int) (r11 : Int) (r12 : Bool) (r13 : ByteArray) (r14 : Int) (w : World) (HT : Aside0 (TabW w)) (h : ticket_Decode.f k a0 = some (r1, r2, r3, r4, r5, r6, r7, r8, r9, r10, r11, r12, r13, r14)) :
  Calls Tryd.prog 17 #[.string a0] w fun e w' => e = .returned (.tuple #[.agg #[.int .i64 r1, .int .i64 r2, .int .i64 r3, .string r4, .string r5, .string r6, .int .i64 r7, .string r8, .int .i64 r9, .int .i64 r10, .int .i64 r11, .bool r12, .string r13], .int .i64 r14]) ∧ Below w.heap.size w w' := by
 have hu27 := Tryd.underlying27
 have hu25 := Tryd.underlying25
 have hu23 := Tryd.underlying23
 have HB := Aside0.mk (Below.refl w.heap.size w)
 have H : ((ticket_open.f a0 (⟨#[71]⟩ : ByteArray)).bind fun bt332 => (if bt332.2.2 = true then ((oR_Groups.f k bt332.1 bt332.2.1 1152921504606846976).bind fun bt336 => ((oR_Wide.f bt336.2.1 bt336.2.2 1).bind fun bt339 => ((oR_Groups.f k bt339.2.1 bt339.2.2 9223372036854775807).bind fun bt343 => ((oR_Groups.f k bt343.2.1 bt343.2.2 1099511627776).bind fun bt346 => ((oR_Groups.f k bt346.2.1 bt346.2.2 2305843009213693952).bind fun bt349 => ((oR_Groups.f k bt349.2.1 bt349.2.2 2305843009213693952).bind fun bt352 => ((oR_Wide.f bt352.2.1 bt352.2.2 1).bind fun bt355 => ((oR_Text.f bt355.2.1 bt355.2.2 64).bind fun bt358 => ((oR_Left.f bt358.2.1 bt358.2.2).bind fun bt361 => ((oR_Bytes.f bt361.2.1 bt361.2.2 bt361.1).bind fun bt364 => ((norm_Decode.f k bt364.1).bind fun bt367 => ((oR_Done.f bt364.2.1 bt364.2.2).bind fun bt374 => (if bt374.1 = 0 then (if bt367.2.2.2.2.2 = 0 then (if bt355.1 > 1 then (some (0, 0, 0, (⟨#[]⟩ : ByteArray), (⟨#[]⟩ : ByteArray), (⟨#[]⟩ : ByteArray), 0, (⟨#[]⟩ : ByteArray), 0, 0, 0, false, (⟨#[]⟩ : ByteArray), 230)) else ((ticket_Check.f k bt336.1 bt339.1 bt343.1 bt367.1 bt367.2.1 bt367.2.2.1 bt367.2.2.2.1 bt367.2.2.2.2.1 bt346.1 bt349.1 bt352.1 (bt355.1 == 1) bt358.1).bind fun t377 => (if t377 = 0 then (some (bt336.1, bt339.1, bt343.1, bt367.1, bt367.2.1, bt367.2.2.1, bt367.2.2.2.1, bt367.2.2.2.2.1, bt346.1, bt349.1, bt352.1, (bt355.1 == 1), bt358.1, 0)) else (some (0, 0, 0, (⟨#[]⟩ : ByteArray), (⟨#[]⟩ : ByteArray), (⟨#[]⟩ : ByteArray), 0, (⟨#[]⟩ : ByteArray), 0, 0, 0, false, (⟨#[]⟩ : ByteArray), 230))))) else (some (0, 0, 0, (⟨#[]⟩ : ByteArray), (⟨#[]⟩ : ByteArray), (⟨#[]⟩ : ByteArray), 0, (⟨#[]⟩ : ByteArray), 0, 0, 0, false, (⟨#[]⟩ : ByteArray), 230))) else (some (0, 0, 0, (⟨#[]⟩ : ByteArray), (⟨#[]⟩ : ByteArray), (⟨#[]⟩ : ByteArray), 0, (⟨#[]⟩ : ByteArray), 0, 0, 0, false, (⟨#[]⟩ : ByteArray), 230))))))))))))))) else (some (0, 0, 0, (⟨#[]⟩ : ByteArray), (⟨#[]⟩ : ByteArray), (⟨#[]⟩ : ByteArray), 0, (⟨#[]⟩ : ByteArray), 0, 0, 0, false, (⟨#[]⟩ : ByteArray), 230)))) = some (r1, r2, r3, r4, r5, r6, r7, r8, r9, r10, r11, r12, r13, r14) := h
 clear h
 replace H := Option.bind_eq_some_iff.mp H
 obtain ⟨⟨t332, t333, t335⟩, A20, H⟩ := H
 try dsimp only at H
 have A2 := Aside0.mk A20
 clear A20
 by_cases c3 : t335 = true
 ·subst c3
  have H1 : ((oR_Groups.f k t332 t333 1152921504606846976).bind fun bt336 => ((oR_Wide.f bt336.2.1 bt336.2.2 1).bind fun bt339 => ((oR_Groups.f k bt339.2.1 bt339.2.2 9223372036854775807).bind fun bt343 => ((oR_Groups.f k bt343.2.1 bt343.2.2 1099511627776).bind fun bt346 => ((oR_Groups.f k bt346.2.1 bt346.2.2 2305843009213693952).bind fun bt349 => ((oR_Groups.f k bt349.2.1 bt349.2.2 2305843009213693952).bind fun bt352 => ((oR_Wide.f bt352.2.1 bt352.2.2 1).bind fun bt355 => ((oR_Text.f bt355.2.1 bt355.2.2 64).bind fun bt358 => ((oR_Left.f bt358.2.1 bt358.2.2).bind fun bt361 => ((oR_Bytes.f bt361.2.1 bt361.2.2 bt361.1).bind fun bt364 => ((norm_Decode.f k bt364.1).bind fun bt367 => ((oR_Done.f bt364.2.1 bt364.2.2).bind fun bt374 => (if bt374.1 = 0 then (if bt367.2.2.2.2.2 = 0 then (if bt355.1 > 1 then (some (0, 0, 0, (⟨#[]⟩ : ByteArray), (⟨#[]⟩ : ByteArray), (⟨#[]⟩ : ByteArray), 0, (⟨#[]⟩ : ByteArray), 0, 0, 0, false, (⟨#[]⟩ : ByteArray), 230)) else ((ticket_Check.f k bt336.1 bt339.1 bt343.1 bt367.1 bt367.2.1 bt367.2.2.1 bt367.2.2.2.1 bt367.2.2.2.2.1 bt346.1 bt349.1 bt352.1 (bt355.1 == 1) bt358.1).bind fun t377 => (if t377 = 0 then (some (bt336.1, bt339.1, bt343.1, bt367.1, bt367.2.1, bt367.2.2.1, bt367.2.2.2.1, bt367.2.2.2.2.1, bt346.1, bt349.1, bt352.1, (bt355.1 == 1), bt358.1, 0)) else (some (0, 0, 0, (⟨#[]⟩ : ByteArray), (⟨#[]⟩ : ByteArray), (⟨#[]⟩ : ByteArray), 0, (⟨#[]⟩ : ByteArray), 0, 0, 0, false, (⟨#[]⟩ : ByteArray), 230))))) else (some (0, 0, 0, (⟨#[]⟩ : ByteArray), (⟨#[]⟩ : ByteArray), (⟨#[]⟩ : ByteArray), 0, (⟨#[]⟩ : ByteArray), 0, 0, 0, false, (⟨#[]⟩ : ByteArray), 230))) else (some (0, 0, 0, (⟨#[]⟩ : ByteArray), (⟨#[]⟩ : ByteArray), (⟨#[]⟩ : ByteArray), 0, (⟨#[]⟩ : ByteArray), 0, 0, 0, false, (⟨#[]⟩ : ByteArray), 230))))))))))))))) = some (r1, r2, r3, r4, r5, r6, r7, r8, r9, r10, r11, r12, r13, r14) := by rw [if_pos rfl] at H; exact H
  clear H
  have H := H1
  clear H1
  replace H := Option.bind_eq_some_iff.mp H
  obtain ⟨⟨t336, t337, t338⟩, A40, H⟩ := H
  try dsimp only at H
  have A4 := Aside0.mk A40
  clear A40
  replace H := Option.bind_eq_some_iff.mp H
  obtain ⟨⟨t339, t340, t341⟩, A50, H⟩ := H
  try dsimp only at H
  have A5 := Aside0.mk A50
  clear A50
  replace H := Option.bind_eq_some_iff.mp H
  obtain ⟨⟨t343, t344, t345⟩, A60, H⟩ := H
  try dsimp only at H
  have A6 := Aside0.mk A60
  clear A60
  replace H := Option.bind_eq_some_iff.mp H
  obtain ⟨⟨t346, t347, t348⟩, A70, H⟩ := H
  try dsimp only at H
  have A7 := Aside0.mk A70
  clear A70
  replace H := Option.bind_eq_some_iff.mp H
  obtain ⟨⟨t349, t350, t351⟩, A80, H⟩ := H
  try dsimp only at H
  have A8 := Aside0.mk A80
  clear A80
  replace H := Option.bind_eq_some_iff.mp H
  obtain ⟨⟨t352, t353, t354⟩, A90, H⟩ := H
  try dsimp only at H
  have A9 := Aside0.mk A90
  clear A90
  replace H := Option.bind_eq_some_iff.mp H
  obtain ⟨⟨t355, t356, t357⟩, A100, H⟩ := H
  try dsimp only at H
  have A10 := Aside0.mk A100
  clear A100
  replace H := Option.bind_eq_some_iff.mp H
  obtain ⟨⟨t358, t359, t360⟩, A110, H⟩ := H
  try dsimp only at H
  have A11 := Aside0.mk A110
  clear A110
  replace H := Option.bind_eq_some_iff.mp H
  obtain ⟨⟨t361, t362, t363⟩, A120, H⟩ := H
  try dsimp only at H
  have A12 := Aside0.mk A120
  clear A120
  replace H := Option.bind_eq_some_iff.mp H
  obtain ⟨⟨t364, t365, t366⟩, A130, H⟩ := H
  try dsimp only at H
  have A13 := Aside0.mk A130
  clear A130
  replace H := Option.bind_eq_some_iff.mp H
  obtain ⟨⟨t367, t368, t369, t370, t371, t372⟩, A140, H⟩ := H
  try dsimp only at H
  have A14 := Aside0.mk A140
  clear A140
  replace H := Option.bind_eq_some_iff.mp H
  obtain ⟨⟨t374, t375, t376⟩, A150, H⟩ := H
  try dsimp only at H
  have A15 := Aside0.mk A150
  clear A150
  have HQ_ := Aside0.mk H
  clear H
  go_enter Tryd.func17, Tryd.ntmps17
  go_upto_region 10 with (first | ((with_reducible refine gD_ (N := 2) rfl ?_); refine gB_ ?hg (N := 2) ?hd (cs := #[.int .i64 0, .int .i64 0, .int .i64 0, .string (⟨#[]⟩ : ByteArray), .string (⟨#[]⟩ : ByteArray), .string (⟨#[]⟩ : ByteArray), .int .i64 0, .string (⟨#[]⟩ : ByteArray), .int .i64 0, .int .i64 0, .int .i64 0, .bool false, .string (⟨#[]⟩ : ByteArray)]) (t := 27) ?hr ?_; (case hd => rfl); (case hg => rfl); (case hr => first | (go_simp; done) | (go_simp; rfl)); intro gb331 hg w19 hbox hb; have n0_ := Aside0.mk (bT_ (by repeat (first | (with_reducible first | exact HB.out | apply bA_ | apply bN_ | apply bD_) | exact HB.out)) hb); have n1_ := Aside0.mk (hbox); have n2_ := Aside0.mk ((by rw [hg]; exact (bZ_ (by repeat (first | (with_reducible first | exact HB.out | apply bA_ | apply bN_ | apply bD_) | exact HB.out))) : w.heap.size ≤ gb331)); have n3_ := Aside0.mk ((by rw [hg]; exact (bZ_ (by repeat (first | (with_reducible first | exact HB.out | apply bA_ | apply bN_ | apply bD_) | exact HB.out))) : w.heap.size ≤ gb331)); clear HB; have HB := n0_; have BK331 := n1_; have GW331 := n2_; have GE331 := n3_; clear n0_ n1_ n2_ n3_; clear hb hbox hg) | ((with_reducible refine gC_ (f := 32) rfl ?_); refine goesL_ (some 12) rfl rfl Tryd.func32 (by kernel_rfl) rfl #[.string a0, .string (⟨#[71]⟩ : ByteArray)] rfl (by (try simp only [List.map_toArray, List.map_cons, List.map_nil]); first | done | rfl | (simp only [List.length_drop, List.length_take]; rfl)) ?_; (with_reducible refine (ticket_open.calls a0 (⟨#[71]⟩ : ByteArray) t332 t333 true w _ ?side1 ⟨TabW.now HT.out (by repeat (first | (with_reducible first | exact HB.out | apply bA_ | apply bN_ | apply bD_ | refine bS_ ?_ GE331.out) | exact HB.out))⟩ A2.out).mono ?_); (case side1 => repeat (first | (with_reducible first | exact HB.out | apply bA_ | apply bN_ | apply bD_ | refine bS_ ?_ GE331.out) | exact HB.out)); rintro e w20 ⟨g334, rfl, hi, hb, hb2⟩; refine ⟨_, rfl, ?_⟩; have n0_ := Aside0.mk (kB_ (g := gb331) (o := .cells #[.int .i64 0, .int .i64 0, .int .i64 0, .string (⟨#[]⟩ : ByteArray), .string (⟨#[]⟩ : ByteArray), .string (⟨#[]⟩ : ByteArray), .int .i64 0, .string (⟨#[]⟩ : ByteArray), .int .i64 0, .int .i64 0, .int .i64 0, .bool false, .string (⟨#[]⟩ : ByteArray)] 27 (0, 0)) (by (with_reducible repeat (first | refine kN_ ?_ _ | refine kD_ ?_ | refine kA_ ?_ _)); exact BK331.out) hb2); have n1_ := Aside0.mk (hb); have n2_ := Aside0.mk (hi); have n3_ := Aside0.mk (J7.ne_blk hi (kB_ (g := gb331) (o := .cells #[.int .i64 0, .int .i64 0, .int .i64 0, .string (⟨#[]⟩ : ByteArray), .string (⟨#[]⟩ : ByteArray), .string (⟨#[]⟩ : ByteArray), .int .i64 0, .string (⟨#[]⟩ : ByteArray), .int .i64 0, .int .i64 0, .int .i64 0, .bool false, .string (⟨#[]⟩ : ByteArray)] 27 (0, 0)) (by (with_reducible repeat (first | refine kN_ ?_ _ | refine kD_ ?_ | refine kA_ ?_ _)); exact BK331.out) hb2) (by decide)); have n4_ := Aside0.mk (Ne.symm (J7.ne_blk hi (kB_ (g := gb331) (o := .cells #[.int .i64 0, .int .i64 0, .int .i64 0, .string (⟨#[]⟩ : ByteArray), .string (⟨#[]⟩ : ByteArray), .string (⟨#[]⟩ : ByteArray), .int .i64 0, .string (⟨#[]⟩ : ByteArray), .int .i64 0, .int .i64 0, .int .i64 0, .bool false, .string (⟨#[]⟩ : ByteArray)] 27 (0, 0)) (by (with_reducible repeat (first | refine kN_ ?_ _ | refine kD_ ?_ | refine kA_ ?_ _)); exact BK331.out) hb2) (by decide))); clear BK331; clear HB; have BK331 := n0_; have HB := n1_; have HI334 := n2_; have NB334_331 := n3_; have NB331_334 := n4_; clear n0_ n1_ n2_ n3_ n4_; (try clear hb); (try clear hb2); (try clear hk); (try clear hi)) | ((with_reducible refine gC_ (f := 33) rfl ?_); refine goesL_ (some 19) rfl rfl Tryd.func33 (by kernel_rfl) rfl #[.pointer (some ⟨g334, 0, none⟩), .int .i64 1152921504606846976] rfl (by (try simp only [List.map_toArray, List.map_cons, List.map_nil]); first | done | rfl | (simp only [List.length_drop, List.length_take]; rfl)) ?_; (with_reducible refine (oR_Groups.calls k g334 t332 t333 1152921504606846976 t336 t337 t338 w _ ?side1 ?side2 A4.out).mono ?_); (case side1 => repeat (first | (with_reducible first | exact HI334.out | apply J7.alloc | apply J7.drewN | apply J7.drew | apply J7.set_0 | apply J7.set_1 | refine J7.far ?_ NB334_331.out _) | exact HI334.out)); (case side2 => repeat (first | (with_reducible first | exact HB.out | apply bA_ | apply bN_ | apply bD_ | refine bS_ ?_ (J7.ge HI334.out) | refine bS_ ?_ GE331.out) | exact HB.out)); rintro e w21 ⟨rfl, hi, hb, hk⟩; refine ⟨_, rfl, ?_⟩; have n0_ := Aside0.mk (KeepBut.blk hk (g' := gb331) (o := .cells #[.int .i64 0, .int .i64 0, .int .i64 0, .string (⟨#[]⟩ : ByteArray), .string (⟨#[]⟩ : ByteArray), .string (⟨#[]⟩ : ByteArray), .int .i64 0, .string (⟨#[]⟩ : ByteArray), .int .i64 0, .int .i64 0, .int .i64 0, .bool false, .string (⟨#[]⟩ : ByteArray)] 27 (0, 0)) (by (with_reducible repeat (first | refine kN_ ?_ _ | refine kD_ ?_ | refine kA_ ?_ _)); exact BK331.out) NB331_334.out (by simp)); have n1_ := Aside0.mk (hb); have n2_ := Aside0.mk (hi); clear BK331; clear HB; clear HI334; have BK331 := n0_; have HB := n1_; have HI334 := n2_; clear n0_ n1_ n2_; (try clear hb); (try clear hb2); (try clear hk); (try clear hi)) | ((with_reducible refine gC_ (f := 34) rfl ?_); refine goesL_ (some 21) rfl rfl Tryd.func34 (by kernel_rfl) rfl #[.pointer (some ⟨g334, 0, none⟩), .int .i64 1] rfl (by (try simp only [List.map_toArray, List.map_cons, List.map_nil]); first | done | rfl | (simp only [List.length_drop, List.length_take]; rfl)) ?_; (with_reducible refine (oR_Wide.calls g334 t337 t338 1 t339 t340 t341 w _ ?side1 ?side2 A5.out).mono ?_); (case side1 => repeat (first | (with_reducible first | exact HI334.out | apply J7.alloc | apply J7.drewN | apply J7.drew | apply J7.set_0 | apply J7.set_1 | refine J7.far ?_ NB334_331.out _) | exact HI334.out)); (case side2 => repeat (first | (with_reducible first | exact HB.out | apply bA_ | apply bN_ | apply bD_ | refine bS_ ?_ (J7.ge HI334.out) | refine bS_ ?_ GE331.out) | exact HB.out)); rintro e w22 ⟨rfl, hi, hb, hk⟩; refine ⟨_, rfl, ?_⟩; have n0_ := Aside0.mk (KeepBut.blk hk (g' := gb331) (o := .cells #[.int .i64 0, .int .i64 0, .int .i64 0, .string (⟨#[]⟩ : ByteArray), .string (⟨#[]⟩ : ByteArray), .string (⟨#[]⟩ : ByteArray), .int .i64 0, .string (⟨#[]⟩ : ByteArray), .int .i64 0, .int .i64 0, .int .i64 0, .bool false, .string (⟨#[]⟩ : ByteArray)] 27 (0, 0)) (by (with_reducible repeat (first | refine kN_ ?_ _ | refine kD_ ?_ | refine kA_ ?_ _)); exact BK331.out) NB331_334.out (by simp)); have n1_ := Aside0.mk (hb); have n2_ := Aside0.mk (hi); clear BK331; clear HB; clear HI334; have BK331 := n0_; have HB := n1_; have HI334 := n2_; clear n0_ n1_ n2_; (try clear hb); (try clear hb2); (try clear hk); (try clear hi)) | ((with_reducible refine gD_ (N := 6) rfl ?_); refine gB_ ?hg (N := 6) ?hd (cs := #[.int .i64 0, .int .i64 0, .int .i64 0, .string (⟨#[]⟩ : ByteArray), .string (⟨#[]⟩ : ByteArray), .string (⟨#[]⟩ : ByteArray), .int .i64 0, .string (⟨#[]⟩ : ByteArray), .int .i64 0, .int .i64 0, .int .i64 0, .bool false, .string (⟨#[]⟩ : ByteArray)]) (t := 27) ?hr ?_; (case hd => rfl); (case hg => rfl); (case hr => first | (go_simp; done) | (go_simp; rfl)); intro gb342 hg w23 hbox hb; have n0_ := Aside0.mk (kB_ (g := gb331) (o := .cells #[.int .i64 0, .int .i64 0, .int .i64 0, .string (⟨#[]⟩ : ByteArray), .string (⟨#[]⟩ : ByteArray), .string (⟨#[]⟩ : ByteArray), .int .i64 0, .string (⟨#[]⟩ : ByteArray), .int .i64 0, .int .i64 0, .int .i64 0, .bool false, .string (⟨#[]⟩ : ByteArray)] 27 (0, 0)) (by (with_reducible repeat (first | refine kN_ ?_ _ | refine kD_ ?_ | refine kA_ ?_ _)); exact BK331.out) hb); have n1_ := Aside0.mk (J7.below (by repeat (first | (with_reducible first | exact HI334.out | apply J7.alloc | apply J7.drewN | apply J7.drew | apply J7.set_0 | apply J7.set_1 | refine J7.far ?_ NB334_331.out _) | exact HI334.out)) hb); have n2_ := Aside0.mk (bT_ (by repeat (first | (with_reducible first | exact HB.out | apply bA_ | apply bN_ | apply bD_ | refine bS_ ?_ (J7.ge HI334.out) | refine bS_ ?_ GE331.out) | exact HB.out)) hb); have n3_ := Aside0.mk (hbox); have n4_ := Aside0.mk ((by rw [hg]; exact (bZ_ (by repeat (first | (with_reducible first | exact HB.out | apply bA_ | apply bN_ | apply bD_ | refine bS_ ?_ (J7.ge HI334.out) | refine bS_ ?_ GE331.out) | exact HB.out))) : w.heap.size ≤ gb342)); have n5_ := Aside0.mk ((by rw [hg]; exact (bZ_ (by repeat (first | (with_reducible first | exact HB.out | apply bA_ | apply bN_ | apply bD_ | refine bS_ ?_ (J7.ge HI334.out) | refine bS_ ?_ GE331.out) | exact HB.out))) : w.heap.size ≤ gb342)); have n6_ := Aside0.mk ((by rw [hg]; exact Nat.ne_of_lt (blk_lt (g := gb331) (o := .cells #[.int .i64 0, .int .i64 0, .int .i64 0, .string (⟨#[]⟩ : ByteArray), .string (⟨#[]⟩ : ByteArray), .string (⟨#[]⟩ : ByteArray), .int .i64 0, .string (⟨#[]⟩ : ByteArray), .int .i64 0, .int .i64 0, .int .i64 0, .bool false, .string (⟨#[]⟩ : ByteArray)] 27 (0, 0)) (by (with_reducible repeat (first | refine kN_ ?_ _ | refine kD_ ?_ | refine kA_ ?_ _)); exact BK331.out)) : gb331 ≠ gb342)); have n7_ := Aside0.mk ((by rw [hg]; exact Nat.ne_of_gt (blk_lt (g := gb331) (o := .cells #[.int .i64 0, .int .i64 0, .int .i64 0, .string (⟨#[]⟩ : ByteArray), .string (⟨#[]⟩ : ByteArray), .string (⟨#[]⟩ : ByteArray), .int .i64 0, .string (⟨#[]⟩ : ByteArray), .int .i64 0, .int .i64 0, .int .i64 0, .bool false, .string (⟨#[]⟩ : ByteArray)] 27 (0, 0)) (by (with_reducible repeat (first | refine kN_ ?_ _ | refine kD_ ?_ | refine kA_ ?_ _)); exact BK331.out)) : gb342 ≠ gb331)); have n8_ := Aside0.mk ((by rw [hg]; exact Nat.ne_of_lt (J7.lt (show J7 w _ g334 t340 t341 from by repeat (first | (with_reducible first | exact HI334.out | apply J7.alloc | apply J7.drewN | apply J7.drew | apply J7.set_0 | apply J7.set_1 | refine J7.far ?_ NB334_331.out _) | exact HI334.out))) : g334 ≠ gb342)); have n9_ := Aside0.mk ((by rw [hg]; exact Nat.ne_of_gt (J7.lt (show J7 w _ g334 t340 t341 from by repeat (first | (with_reducible first | exact HI334.out | apply J7.alloc | apply J7.drewN | apply J7.drew | apply J7.set_0 | apply J7.set_1 | refine J7.far ?_ NB334_331.out _) | exact HI334.out))) : gb342 ≠ g334)); clear BK331; clear HI334; clear HB; have BK331 := n0_; have HI334 := n1_; have HB := n2_; have BK342 := n3_; have GW342 := n4_; have GE342 := n5_; have NB331_342 := n6_; have NB342_331 := n7_; have NB334_342 := n8_; have NB342_334 := n9_; clear n0_ n1_ n2_ n3_ n4_ n5_ n6_ n7_ n8_ n9_; clear hb hbox hg; have hnb24 := NB342_331.out; have hnc24 := NB331_342.out; have hnb25 := NB342_334.out; have hnc25 := NB334_342.out; obtain ⟨_,_,_,_,_,_,_,_,_,_,_,_,_⟩ := cell13 BK342.out; obtain ⟨_,_,_,_,_,_,_,_,_,_,_,_,_⟩ := froz13 BK342.out) | ((with_reducible refine gC_ (f := 33) rfl ?_); refine goesL_ (some 24) rfl rfl Tryd.func33 (by kernel_rfl) rfl #[.pointer (some ⟨g334, 0, none⟩), .int .i64 9223372036854775807] rfl (by (try simp only [List.map_toArray, List.map_cons, List.map_nil]); first | done | rfl | (simp only [List.length_drop, List.length_take]; rfl)) ?_; (with_reducible refine (oR_Groups.calls k g334 t340 t341 9223372036854775807 t343 t344 t345 w _ ?side1 ?side2 A6.out).mono ?_); (case side1 => repeat (first | (with_reducible first | exact HI334.out | apply J7.alloc | apply J7.drewN | apply J7.drew | apply J7.set_0 | apply J7.set_1 | refine J7.far ?_ NB334_331.out _ | refine J7.far ?_ NB334_342.out _) | exact HI334.out)); (case side2 => repeat (first | (with_reducible first | exact HB.out | apply bA_ | apply bN_ | apply bD_ | refine bS_ ?_ (J7.ge HI334.out) | refine bS_ ?_ GE331.out | refine bS_ ?_ GE342.out) | exact HB.out)); rintro e w27 ⟨rfl, hi, hb, hk⟩; refine ⟨_, rfl, ?_⟩; have n0_ := Aside0.mk (KeepBut.blk hk (g' := gb331) (o := .cells #[.int .i64 0, .int .i64 0, .int .i64 0, .string (⟨#[]⟩ : ByteArray), .string (⟨#[]⟩ : ByteArray), .string (⟨#[]⟩ : ByteArray), .int .i64 0, .string (⟨#[]⟩ : ByteArray), .int .i64 0, .int .i64 0, .int .i64 0, .bool false, .string (⟨#[]⟩ : ByteArray)] 27 (0, 0)) (by (with_reducible repeat (first | refine kN_ ?_ _ | refine kD_ ?_ | refine kA_ ?_ _)); refine kF_ ?_ NB331_342.out _; (with_reducible repeat (first | refine kN_ ?_ _ | refine kD_ ?_ | refine kA_ ?_ _)); refine kF_ ?_ NB331_342.out _; (with_reducible repeat (first | refine kN_ ?_ _ | refine kD_ ?_ | refine kA_ ?_ _)); refine kF_ ?_ NB331_342.out _; (with_reducible repeat (first | refine kN_ ?_ _ | refine kD_ ?_ | refine kA_ ?_ _)); refine kF_ ?_ NB331_342.out _; (with_reducible repeat (first | refine kN_ ?_ _ | refine kD_ ?_ | refine kA_ ?_ _)); refine kF_ ?_ NB331_342.out _; (with_reducible repeat (first | refine kN_ ?_ _ | refine kD_ ?_ | refine kA_ ?_ _)); refine kF_ ?_ NB331_342.out _; (with_reducible repeat (first | refine kN_ ?_ _ | refine kD_ ?_ | refine kA_ ?_ _)); refine kF_ ?_ NB331_342.out _; (with_reducible repeat (first | refine kN_ ?_ _ | refine kD_ ?_ | refine kA_ ?_ _)); refine kF_ ?_ NB331_342.out _; (with_reducible repeat (first | refine kN_ ?_ _ | refine kD_ ?_ | refine kA_ ?_ _)); refine kF_ ?_ NB331_342.out _; (with_reducible repeat (first | refine kN_ ?_ _ | refine kD_ ?_ | refine kA_ ?_ _)); refine kF_ ?_ NB331_342.out _; (with_reducible repeat (first | refine kN_ ?_ _ | refine kD_ ?_ | refine kA_ ?_ _)); refine kF_ ?_ NB331_342.out _; (with_reducible repeat (first | refine kN_ ?_ _ | refine kD_ ?_ | refine kA_ ?_ _)); refine kF_ ?_ NB331_342.out _; (with_reducible repeat (first | refine kN_ ?_ _ | refine kD_ ?_ | refine kA_ ?_ _)); refine kF_ ?_ NB331_342.out _; (with_reducible repeat (first | refine kN_ ?_ _ | refine kD_ ?_ | refine kA_ ?_ _)); exact BK331.out) NB331_334.out (by simp)); have n1_ := Aside0.mk (KeepBut.blk hk (g' := gb342) (o := .cells #[.int .i64 t336, .int .i64 t339, .int .i64 0, .string (⟨#[]⟩ : ByteArray), .string (⟨#[]⟩ : ByteArray), .string (⟨#[]⟩ : ByteArray), .int .i64 0, .string (⟨#[]⟩ : ByteArray), .int .i64 0, .int .i64 0, .int .i64 0, .bool false, .string (⟨#[]⟩ : ByteArray)] 27 (0, 0)) (by (with_reducible repeat (first | refine kN_ ?_ _ | refine kD_ ?_ | refine kA_ ?_ _)); refine blk_p13_0_12 (show _ = some (Obj.cells #[.int .i64 0, .int .i64 0, .int .i64 0, .string (⟨#[]⟩ : ByteArray), .string (⟨#[]⟩ : ByteArray), .string (⟨#[]⟩ : ByteArray), .int .i64 0, .string (⟨#[]⟩ : ByteArray), .int .i64 0, .int .i64 0, .int .i64 0, .bool false, .string (⟨#[]⟩ : ByteArray)] _ (0, 0)) from ?_); (with_reducible repeat (first | refine kN_ ?_ _ | refine kD_ ?_ | refine kA_ ?_ _)); exact BK342.out) NB342_334.out (by simp)); have n2_ := Aside0.mk (hb); have n3_ := Aside0.mk (hi); clear BK331; clear BK342; clear HB; clear HI334; have BK331 := n0_; have BK342 := n1_; have HB := n2_; have HI334 := n3_; clear n0_ n1_ n2_ n3_; (try clear hb); (try clear hb2); (try clear hk); (try clear hi)) | ((with_reducible refine gC_ (f := 33) rfl ?_); refine goesL_ (some 26) rfl rfl Tryd.func33 (by kernel_rfl) rfl #[.pointer (some ⟨g334, 0, none⟩), .int .i64 1099511627776] rfl (by (try simp only [List.map_toArray, List.map_cons, List.map_nil]); first | done | rfl | (simp only [List.length_drop, List.length_take]; rfl)) ?_; (with_reducible refine (oR_Groups.calls k g334 t344 t345 1099511627776 t346 t347 t348 w _ ?side1 ?side2 A7.out).mono ?_); (case side1 => repeat (first | (with_reducible first | exact HI334.out | apply J7.alloc | apply J7.drewN | apply J7.drew | apply J7.set_0 | apply J7.set_1 | refine J7.far ?_ NB334_331.out _ | refine J7.far ?_ NB334_342.out _) | exact HI334.out)); (case side2 => repeat (first | (with_reducible first | exact HB.out | apply bA_ | apply bN_ | apply bD_ | refine bS_ ?_ (J7.ge HI334.out) | refine bS_ ?_ GE331.out | refine bS_ ?_ GE342.out) | exact HB.out)); rintro e w28 ⟨rfl, hi, hb, hk⟩; refine ⟨_, rfl, ?_⟩; have n0_ := Aside0.mk (KeepBut.blk hk (g' := gb331) (o := .cells #[.int .i64 0, .int .i64 0, .int .i64 0, .string (⟨#[]⟩ : ByteArray), .string (⟨#[]⟩ : ByteArray), .string (⟨#[]⟩ : ByteArray), .int .i64 0, .string (⟨#[]⟩ : ByteArray), .int .i64 0, .int .i64 0, .int .i64 0, .bool false, .string (⟨#[]⟩ : ByteArray)] 27 (0, 0)) (by (with_reducible repeat (first | refine kN_ ?_ _ | refine kD_ ?_ | refine kA_ ?_ _)); exact BK331.out) NB331_334.out (by simp)); have n1_ := Aside0.mk (KeepBut.blk hk (g' := gb342) (o := .cells #[.int .i64 t336, .int .i64 t339, .int .i64 0, .string (⟨#[]⟩ : ByteArray), .string (⟨#[]⟩ : ByteArray), .string (⟨#[]⟩ : ByteArray), .int .i64 0, .string (⟨#[]⟩ : ByteArray), .int .i64 0, .int .i64 0, .int .i64 0, .bool false, .string (⟨#[]⟩ : ByteArray)] 27 (0, 0)) (by (with_reducible repeat (first | refine kN_ ?_ _ | refine kD_ ?_ | refine kA_ ?_ _)); exact BK342.out) NB342_334.out (by simp)); have n2_ := Aside0.mk (hb); have n3_ := Aside0.mk (hi); clear BK331; clear BK342; clear HB; clear HI334; have BK331 := n0_; have BK342 := n1_; have HB := n2_; have HI334 := n3_; clear n0_ n1_ n2_ n3_; (try clear hb); (try clear hb2); (try clear hk); (try clear hi)) | ((with_reducible refine gC_ (f := 33) rfl ?_); refine goesL_ (some 28) rfl rfl Tryd.func33 (by kernel_rfl) rfl #[.pointer (some ⟨g334, 0, none⟩), .int .i64 2305843009213693952] rfl (by (try simp only [List.map_toArray, List.map_cons, List.map_nil]); first | done | rfl | (simp only [List.length_drop, List.length_take]; rfl)) ?_; (with_reducible refine (oR_Groups.calls k g334 t347 t348 2305843009213693952 t349 t350 t351 w _ ?side1 ?side2 A8.out).mono ?_); (case side1 => repeat (first | (with_reducible first | exact HI334.out | apply J7.alloc | apply J7.drewN | apply J7.drew | apply J7.set_0 | apply J7.set_1 | refine J7.far ?_ NB334_331.out _ | refine J7.far ?_ NB334_342.out _) | exact HI334.out)); (case side2 => repeat (first | (with_reducible first | exact HB.out | apply bA_ | apply bN_ | apply bD_ | refine bS_ ?_ (J7.ge HI334.out) | refine bS_ ?_ GE331.out | refine bS_ ?_ GE342.out) | exact HB.out)); rintro e w29 ⟨rfl, hi, hb, hk⟩; refine ⟨_, rfl, ?_⟩; have n0_ := Aside0.mk (KeepBut.blk hk (g' := gb331) (o := .cells #[.int .i64 0, .int .i64 0, .int .i64 0, .string (⟨#[]⟩ : ByteArray), .string (⟨#[]⟩ : ByteArray), .string (⟨#[]⟩ : ByteArray), .int .i64 0, .string (⟨#[]⟩ : ByteArray), .int .i64 0, .int .i64 0, .int .i64 0, .bool false, .string (⟨#[]⟩ : ByteArray)] 27 (0, 0)) (by (with_reducible repeat (first | refine kN_ ?_ _ | refine kD_ ?_ | refine kA_ ?_ _)); exact BK331.out) NB331_334.out (by simp)); have n1_ := Aside0.mk (KeepBut.blk hk (g' := gb342) (o := .cells #[.int .i64 t336, .int .i64 t339, .int .i64 0, .string (⟨#[]⟩ : ByteArray), .string (⟨#[]⟩ : ByteArray), .string (⟨#[]⟩ : ByteArray), .int .i64 0, .string (⟨#[]⟩ : ByteArray), .int .i64 0, .int .i64 0, .int .i64 0, .bool false, .string (⟨#[]⟩ : ByteArray)] 27 (0, 0)) (by (with_reducible repeat (first | refine kN_ ?_ _ | refine kD_ ?_ | refine kA_ ?_ _)); exact BK342.out) NB342_334.out (by simp)); have n2_ := Aside0.mk (hb); have n3_ := Aside0.mk (hi); clear BK331; clear BK342; clear HB; clear HI334; have BK331 := n0_; have BK342 := n1_; have HB := n2_; have HI334 := n3_; clear n0_ n1_ n2_ n3_; (try clear hb); (try clear hb2); (try clear hk); (try clear hi)) | ((with_reducible refine gC_ (f := 33) rfl ?_); refine goesL_ (some 30) rfl rfl Tryd.func33 (by kernel_rfl) rfl #[.pointer (some ⟨g334, 0, none⟩), .int .i64 2305843009213693952] rfl (by (try simp only [List.map_toArray, List.map_cons, List.map_nil]); first | done | rfl | (simp only [List.length_drop, List.length_take]; rfl)) ?_; (with_reducible refine (oR_Groups.calls k g334 t350 t351 2305843009213693952 t352 t353 t354 w _ ?side1 ?side2 A9.out).mono ?_); (case side1 => repeat (first | (with_reducible first | exact HI334.out | apply J7.alloc | apply J7.drewN | apply J7.drew | apply J7.set_0 | apply J7.set_1 | refine J7.far ?_ NB334_331.out _ | refine J7.far ?_ NB334_342.out _) | exact HI334.out)); (case side2 => repeat (first | (with_reducible first | exact HB.out | apply bA_ | apply bN_ | apply bD_ | refine bS_ ?_ (J7.ge HI334.out) | refine bS_ ?_ GE331.out | refine bS_ ?_ GE342.out) | exact HB.out)); rintro e w30 ⟨rfl, hi, hb, hk⟩; refine ⟨_, rfl, ?_⟩; have n0_ := Aside0.mk (KeepBut.blk hk (g' := gb331) (o := .cells #[.int .i64 0, .int .i64 0, .int .i64 0, .string (⟨#[]⟩ : ByteArray), .string (⟨#[]⟩ : ByteArray), .string (⟨#[]⟩ : ByteArray), .int .i64 0, .string (⟨#[]⟩ : ByteArray), .int .i64 0, .int .i64 0, .int .i64 0, .bool false, .string (⟨#[]⟩ : ByteArray)] 27 (0, 0)) (by (with_reducible repeat (first | refine kN_ ?_ _ | refine kD_ ?_ | refine kA_ ?_ _)); exact BK331.out) NB331_334.out (by simp)); have n1_ := Aside0.mk (KeepBut.blk hk (g' := gb342) (o := .cells #[.int .i64 t336, .int .i64 t339, .int .i64 0, .string (⟨#[]⟩ : ByteArray), .string (⟨#[]⟩ : ByteArray), .string (⟨#[]⟩ : ByteArray), .int .i64 0, .string (⟨#[]⟩ : ByteArray), .int .i64 0, .int .i64 0, .int .i64 0, .bool false, .string (⟨#[]⟩ : ByteArray)] 27 (0, 0)) (by (with_reducible repeat (first | refine kN_ ?_ _ | refine kD_ ?_ | refine kA_ ?_ _)); exact BK342.out) NB342_334.out (by simp)); have n2_ := Aside0.mk (hb); have n3_ := Aside0.mk (hi); clear BK331; clear BK342; clear HB; clear HI334; have BK331 := n0_; have BK342 := n1_; have HB := n2_; have HI334 := n3_; clear n0_ n1_ n2_ n3_; (try clear hb); (try clear hb2); (try clear hk); (try clear hi); obtain ⟨_,_,_,_,_,_,_,_,_,_,_,_,_⟩ := cell13 BK342.out; obtain ⟨_,_,_,_,_,_,_,_,_,_,_,_,_⟩ := froz13 BK342.out) | ((with_reducible refine gC_ (f := 34) rfl ?_); refine goesL_ (some 34) rfl rfl Tryd.func34 (by kernel_rfl) rfl #[.pointer (some ⟨g334, 0, none⟩), .int .i64 1] rfl (by (try simp only [List.map_toArray, List.map_cons, List.map_nil]); first | done | rfl | (simp only [List.length_drop, List.length_take]; rfl)) ?_; (with_reducible refine (oR_Wide.calls g334 t353 t354 1 t355 t356 t357 w _ ?side1 ?side2 A10.out).mono ?_); (case side1 => repeat (first | (with_reducible first | exact HI334.out | apply J7.alloc | apply J7.drewN | apply J7.drew | apply J7.set_0 | apply J7.set_1 | refine J7.far ?_ NB334_331.out _ | refine J7.far ?_ NB334_342.out _) | exact HI334.out)); (case side2 => repeat (first | (with_reducible first | exact HB.out | apply bA_ | apply bN_ | apply bD_ | refine bS_ ?_ (J7.ge HI334.out) | refine bS_ ?_ GE331.out | refine bS_ ?_ GE342.out) | exact HB.out)); rintro e w32 ⟨rfl, hi, hb, hk⟩; refine ⟨_, rfl, ?_⟩; have n0_ := Aside0.mk (KeepBut.blk hk (g' := gb331) (o := .cells #[.int .i64 0, .int .i64 0, .int .i64 0, .string (⟨#[]⟩ : ByteArray), .string (⟨#[]⟩ : ByteArray), .string (⟨#[]⟩ : ByteArray), .int .i64 0, .string (⟨#[]⟩ : ByteArray), .int .i64 0, .int .i64 0, .int .i64 0, .bool false, .string (⟨#[]⟩ : ByteArray)] 27 (0, 0)) (by (with_reducible repeat (first | refine kN_ ?_ _ | refine kD_ ?_ | refine kA_ ?_ _)); refine kF_ ?_ NB331_342.out _; (with_reducible repeat (first | refine kN_ ?_ _ | refine kD_ ?_ | refine kA_ ?_ _)); refine kF_ ?_ NB331_342.out _; (with_reducible repeat (first | refine kN_ ?_ _ | refine kD_ ?_ | refine kA_ ?_ _)); refine kF_ ?_ NB331_342.out _; (with_reducible repeat (first | refine kN_ ?_ _ | refine kD_ ?_ | refine kA_ ?_ _)); refine kF_ ?_ NB331_342.out _; (with_reducible repeat (first | refine kN_ ?_ _ | refine kD_ ?_ | refine kA_ ?_ _)); refine kF_ ?_ NB331_342.out _; (with_reducible repeat (first | refine kN_ ?_ _ | refine kD_ ?_ | refine kA_ ?_ _)); refine kF_ ?_ NB331_342.out _; (with_reducible repeat (first | refine kN_ ?_ _ | refine kD_ ?_ | refine kA_ ?_ _)); refine kF_ ?_ NB331_342.out _; (with_reducible repeat (first | refine kN_ ?_ _ | refine kD_ ?_ | refine kA_ ?_ _)); refine kF_ ?_ NB331_342.out _; (with_reducible repeat (first | refine kN_ ?_ _ | refine kD_ ?_ | refine kA_ ?_ _)); refine kF_ ?_ NB331_342.out _; (with_reducible repeat (first | refine kN_ ?_ _ | refine kD_ ?_ | refine kA_ ?_ _)); refine kF_ ?_ NB331_342.out _; (with_reducible repeat (first | refine kN_ ?_ _ | refine kD_ ?_ | refine kA_ ?_ _)); refine kF_ ?_ NB331_342.out _; (with_reducible repeat (first | refine kN_ ?_ _ | refine kD_ ?_ | refine kA_ ?_ _)); exact BK331.out) NB331_334.out (by simp)); have n1_ := Aside0.mk (KeepBut.blk hk (g' := gb342) (o := .cells #[.int .i64 t336, .int .i64 t339, .int .i64 t343, .string (⟨#[]⟩ : ByteArray), .string (⟨#[]⟩ : ByteArray), .string (⟨#[]⟩ : ByteArray), .int .i64 0, .string (⟨#[]⟩ : ByteArray), .int .i64 t346, .int .i64 t349, .int .i64 t352, .bool false, .string (⟨#[]⟩ : ByteArray)] 27 (0, 0)) (by (with_reducible repeat (first | refine kN_ ?_ _ | refine kD_ ?_ | refine kA_ ?_ _)); refine blk_p13_2_12 (show _ = some (Obj.cells #[.int .i64 t336, .int .i64 t339, .int .i64 0, .string (⟨#[]⟩ : ByteArray), .string (⟨#[]⟩ : ByteArray), .string (⟨#[]⟩ : ByteArray), .int .i64 0, .string (⟨#[]⟩ : ByteArray), .int .i64 0, .int .i64 0, .int .i64 0, .bool false, .string (⟨#[]⟩ : ByteArray)] _ (0, 0)) from ?_); (with_reducible repeat (first | refine kN_ ?_ _ | refine kD_ ?_ | refine kA_ ?_ _)); exact BK342.out) NB342_334.out (by simp)); have n2_ := Aside0.mk (hb); have n3_ := Aside0.mk (hi); clear BK331; clear BK342; clear HB; clear HI334; have BK331 := n0_; have BK342 := n1_; have HB := n2_; have HI334 := n3_; clear n0_ n1_ n2_ n3_; (try clear hb); (try clear hb2); (try clear hk); (try clear hi)) | ((with_reducible refine gC_ (f := 35) rfl ?_); refine goesL_ (some 38) rfl rfl Tryd.func35 (by kernel_rfl) rfl #[.pointer (some ⟨g334, 0, none⟩), .int .i64 64] rfl (by (try simp only [List.map_toArray, List.map_cons, List.map_nil]); first | done | rfl | (simp only [List.length_drop, List.length_take]; rfl)) ?_; (with_reducible refine (oR_Text.calls g334 t356 t357 64 t358 t359 t360 w _ ?side1 ?side2 A11.out).mono ?_); (case side1 => repeat (first | (with_reducible first | exact HI334.out | apply J7.alloc | apply J7.drewN | apply J7.drew | apply J7.set_0 | apply J7.set_1 | refine J7.far ?_ NB334_331.out _ | refine J7.far ?_ NB334_342.out _) | exact HI334.out)); (case side2 => repeat (first | (with_reducible first | exact HB.out | apply bA_ | apply bN_ | apply bD_ | refine bS_ ?_ (J7.ge HI334.out) | refine bS_ ?_ GE331.out | refine bS_ ?_ GE342.out) | exact HB.out)); rintro e w33 ⟨rfl, hi, hb, hk⟩; refine ⟨_, rfl, ?_⟩; have n0_ := Aside0.mk (KeepBut.blk hk (g' := gb331) (o := .cells #[.int .i64 0, .int .i64 0, .int .i64 0, .string (⟨#[]⟩ : ByteArray), .string (⟨#[]⟩ : ByteArray), .string (⟨#[]⟩ : ByteArray), .int .i64 0, .string (⟨#[]⟩ : ByteArray), .int .i64 0, .int .i64 0, .int .i64 0, .bool false, .string (⟨#[]⟩ : ByteArray)] 27 (0, 0)) (by (with_reducible repeat (first | refine kN_ ?_ _ | refine kD_ ?_ | refine kA_ ?_ _)); exact BK331.out) NB331_334.out (by simp)); have n1_ := Aside0.mk (KeepBut.blk hk (g' := gb342) (o := .cells #[.int .i64 t336, .int .i64 t339, .int .i64 t343, .string (⟨#[]⟩ : ByteArray), .string (⟨#[]⟩ : ByteArray), .string (⟨#[]⟩ : ByteArray), .int .i64 0, .string (⟨#[]⟩ : ByteArray), .int .i64 t346, .int .i64 t349, .int .i64 t352, .bool false, .string (⟨#[]⟩ : ByteArray)] 27 (0, 0)) (by (with_reducible repeat (first | refine kN_ ?_ _ | refine kD_ ?_ | refine kA_ ?_ _)); exact BK342.out) NB342_334.out (by simp)); have n2_ := Aside0.mk (hb); have n3_ := Aside0.mk (hi); clear BK331; clear BK342; clear HB; clear HI334; have BK331 := n0_; have BK342 := n1_; have HB := n2_; have HI334 := n3_; clear n0_ n1_ n2_ n3_; (try clear hb); (try clear hb2); (try clear hk); (try clear hi); obtain ⟨_,_,_,_,_,_,_,_,_,_,_,_,_⟩ := cell13 BK342.out; obtain ⟨_,_,_,_,_,_,_,_,_,_,_,_,_⟩ := froz13 BK342.out) | ((with_reducible refine gC_ (f := 38) rfl ?_); refine goesL_ (some 46) rfl rfl Tryd.func38 (by kernel_rfl) rfl #[.pointer (some ⟨g334, 0, none⟩)] rfl (by (try simp only [List.map_toArray, List.map_cons, List.map_nil]); first | done | rfl | (simp only [List.length_drop, List.length_take]; rfl)) ?_; (with_reducible refine (oR_Left.calls g334 t359 t360 t361 t362 t363 w _ ?side1 ?side2 A12.out).mono ?_); (case side1 => repeat (first | (with_reducible first | exact HI334.out | apply J7.alloc | apply J7.drewN | apply J7.drew | apply J7.set_0 | apply J7.set_1 | refine J7.far ?_ NB334_331.out _ | refine J7.far ?_ NB334_342.out _) | exact HI334.out)); (case side2 => repeat (first | (with_reducible first | exact HB.out | apply bA_ | apply bN_ | apply bD_ | refine bS_ ?_ (J7.ge HI334.out) | refine bS_ ?_ GE331.out | refine bS_ ?_ GE342.out) | exact HB.out)); rintro e w35 ⟨rfl, hi, hb, hk⟩; refine ⟨_, rfl, ?_⟩; have n0_ := Aside0.mk (KeepBut.blk hk (g' := gb331) (o := .cells #[.int .i64 0, .int .i64 0, .int .i64 0, .string (⟨#[]⟩ : ByteArray), .string (⟨#[]⟩ : ByteArray), .string (⟨#[]⟩ : ByteArray), .int .i64 0, .string (⟨#[]⟩ : ByteArray), .int .i64 0, .int .i64 0, .int .i64 0, .bool false, .string (⟨#[]⟩ : ByteArray)] 27 (0, 0)) (by (with_reducible repeat (first | refine kN_ ?_ _ | refine kD_ ?_ | refine kA_ ?_ _)); refine kF_ ?_ NB331_342.out _; (with_reducible repeat (first | refine kN_ ?_ _ | refine kD_ ?_ | refine kA_ ?_ _)); refine kF_ ?_ NB331_342.out _; (with_reducible repeat (first | refine kN_ ?_ _ | refine kD_ ?_ | refine kA_ ?_ _)); exact BK331.out) NB331_334.out (by simp)); have n1_ := Aside0.mk (KeepBut.blk hk (g' := gb342) (o := .cells #[.int .i64 t336, .int .i64 t339, .int .i64 t343, .string (⟨#[]⟩ : ByteArray), .string (⟨#[]⟩ : ByteArray), .string (⟨#[]⟩ : ByteArray), .int .i64 0, .string (⟨#[]⟩ : ByteArray), .int .i64 t346, .int .i64 t349, .int .i64 t352, .bool (t355 == 1), .string t358] 27 (0, 0)) (by (with_reducible repeat (first | refine kN_ ?_ _ | refine kD_ ?_ | refine kA_ ?_ _)); refine kP_ (cs := #[.int .i64 t336, .int .i64 t339, .int .i64 t343, .string (⟨#[]⟩ : ByteArray), .string (⟨#[]⟩ : ByteArray), .string (⟨#[]⟩ : ByteArray), .int .i64 0, .string (⟨#[]⟩ : ByteArray), .int .i64 t346, .int .i64 t349, .int .i64 t352, .bool (t355 == 1), .string (⟨#[]⟩ : ByteArray)]) ?_ 12 _ rfl; (with_reducible repeat (first | refine kN_ ?_ _ | refine kD_ ?_ | refine kA_ ?_ _)); refine kP_ (cs := #[.int .i64 t336, .int .i64 t339, .int .i64 t343, .string (⟨#[]⟩ : ByteArray), .string (⟨#[]⟩ : ByteArray), .string (⟨#[]⟩ : ByteArray), .int .i64 0, .string (⟨#[]⟩ : ByteArray), .int .i64 t346, .int .i64 t349, .int .i64 t352, .bool false, .string (⟨#[]⟩ : ByteArray)]) ?_ 11 _ rfl; (with_reducible repeat (first | refine kN_ ?_ _ | refine kD_ ?_ | refine kA_ ?_ _)); exact BK342.out) NB342_334.out (by simp)); have n2_ := Aside0.mk (hb); have n3_ := Aside0.mk (hi); clear BK331; clear BK342; clear HB; clear HI334; have BK331 := n0_; have BK342 := n1_; have HB := n2_; have HI334 := n3_; clear n0_ n1_ n2_ n3_; (try clear hb); (try clear hb2); (try clear hk); (try clear hi)) | ((with_reducible refine gC_ (f := 37) rfl ?_); refine goesL_ (some 47) rfl rfl Tryd.func37 (by kernel_rfl) rfl #[.pointer (some ⟨g334, 0, none⟩), .int .i64 t361] rfl (by (try simp only [List.map_toArray, List.map_cons, List.map_nil]); first | done | rfl | (simp only [List.length_drop, List.length_take]; rfl)) ?_; (with_reducible refine (oR_Bytes.calls g334 t362 t363 t361 t364 t365 t366 w _ ?side1 ?side2 A13.out).mono ?_); (case side1 => repeat (first | (with_reducible first | exact HI334.out | apply J7.alloc | apply J7.drewN | apply J7.drew | apply J7.set_0 | apply J7.set_1 | refine J7.far ?_ NB334_331.out _ | refine J7.far ?_ NB334_342.out _) | exact HI334.out)); (case side2 => repeat (first | (with_reducible first | exact HB.out | apply bA_ | apply bN_ | apply bD_ | refine bS_ ?_ (J7.ge HI334.out) | refine bS_ ?_ GE331.out | refine bS_ ?_ GE342.out) | exact HB.out)); rintro e w36 ⟨rfl, hi, hb, hk⟩; refine ⟨_, rfl, ?_⟩; have n0_ := Aside0.mk (KeepBut.blk hk (g' := gb331) (o := .cells #[.int .i64 0, .int .i64 0, .int .i64 0, .string (⟨#[]⟩ : ByteArray), .string (⟨#[]⟩ : ByteArray), .string (⟨#[]⟩ : ByteArray), .int .i64 0, .string (⟨#[]⟩ : ByteArray), .int .i64 0, .int .i64 0, .int .i64 0, .bool false, .string (⟨#[]⟩ : ByteArray)] 27 (0, 0)) (by (with_reducible repeat (first | refine kN_ ?_ _ | refine kD_ ?_ | refine kA_ ?_ _)); exact BK331.out) NB331_334.out (by simp)); have n1_ := Aside0.mk (KeepBut.blk hk (g' := gb342) (o := .cells #[.int .i64 t336, .int .i64 t339, .int .i64 t343, .string (⟨#[]⟩ : ByteArray), .string (⟨#[]⟩ : ByteArray), .string (⟨#[]⟩ : ByteArray), .int .i64 0, .string (⟨#[]⟩ : ByteArray), .int .i64 t346, .int .i64 t349, .int .i64 t352, .bool (t355 == 1), .string t358] 27 (0, 0)) (by (with_reducible repeat (first | refine kN_ ?_ _ | refine kD_ ?_ | refine kA_ ?_ _)); exact BK342.out) NB342_334.out (by simp)); have n2_ := Aside0.mk (hb); have n3_ := Aside0.mk (hi); clear BK331; clear BK342; clear HB; clear HI334; have BK331 := n0_; have BK342 := n1_; have HB := n2_; have HI334 := n3_; clear n0_ n1_ n2_ n3_; (try clear hb); (try clear hb2); (try clear hk); (try clear hi)) | ((with_reducible refine gC_ (f := 36) rfl ?_); refine goesL_ (some 48) rfl rfl Tryd.func36 (by kernel_rfl) rfl #[.string t364] rfl (by (try simp only [List.map_toArray, List.map_cons, List.map_nil]); first | done | rfl | (simp only [List.length_drop, List.length_take]; rfl)) ?_; (with_reducible refine (norm_Decode.calls k t364 t367 t368 t369 t370 t371 t372 _ A14.out).mono ?_); rintro e w37 ⟨rfl, hb⟩; refine ⟨_, rfl, ?_⟩; have n0_ := Aside0.mk (kB_ (g := gb331) (o := .cells #[.int .i64 0, .int .i64 0, .int .i64 0, .string (⟨#[]⟩ : ByteArray), .string (⟨#[]⟩ : ByteArray), .string (⟨#[]⟩ : ByteArray), .int .i64 0, .string (⟨#[]⟩ : ByteArray), .int .i64 0, .int .i64 0, .int .i64 0, .bool false, .string (⟨#[]⟩ : ByteArray)] 27 (0, 0)) (by (with_reducible repeat (first | refine kN_ ?_ _ | refine kD_ ?_ | refine kA_ ?_ _)); exact BK331.out) hb); have n1_ := Aside0.mk (J7.below (by repeat (first | (with_reducible first | exact HI334.out | apply J7.alloc | apply J7.drewN | apply J7.drew | apply J7.set_0 | apply J7.set_1 | refine J7.far ?_ NB334_331.out _ | refine J7.far ?_ NB334_342.out _) | exact HI334.out)) hb); have n2_ := Aside0.mk (kB_ (g := gb342) (o := .cells #[.int .i64 t336, .int .i64 t339, .int .i64 t343, .string (⟨#[]⟩ : ByteArray), .string (⟨#[]⟩ : ByteArray), .string (⟨#[]⟩ : ByteArray), .int .i64 0, .string (⟨#[]⟩ : ByteArray), .int .i64 t346, .int .i64 t349, .int .i64 t352, .bool (t355 == 1), .string t358] 27 (0, 0)) (by (with_reducible repeat (first | refine kN_ ?_ _ | refine kD_ ?_ | refine kA_ ?_ _)); exact BK342.out) hb); have n3_ := Aside0.mk (bT_ (by repeat (first | (with_reducible first | exact HB.out | apply bA_ | apply bN_ | apply bD_ | refine bS_ ?_ (J7.ge HI334.out) | refine bS_ ?_ GE331.out | refine bS_ ?_ GE342.out) | exact HB.out)) hb); clear BK331; clear HI334; clear BK342; clear HB; have BK331 := n0_; have HI334 := n1_; have BK342 := n2_; have HB := n3_; clear n0_ n1_ n2_ n3_; (try clear hb); (try clear hb2); (try clear hk); (try clear hi)) | ((with_reducible refine gD_ (N := 8) rfl ?_); refine gB_ ?hg (N := 8) ?hd (cs := #[.string (⟨#[]⟩ : ByteArray), .string (⟨#[]⟩ : ByteArray), .string (⟨#[]⟩ : ByteArray), .int .i64 0, .string (⟨#[]⟩ : ByteArray)]) (t := 23) ?hr ?_; (case hd => rfl); (case hg => rfl); (case hr => first | (go_simp; done) | (go_simp; rfl)); intro gb373 hg w38 hbox hb; have n0_ := Aside0.mk (kB_ (g := gb331) (o := .cells #[.int .i64 0, .int .i64 0, .int .i64 0, .string (⟨#[]⟩ : ByteArray), .string (⟨#[]⟩ : ByteArray), .string (⟨#[]⟩ : ByteArray), .int .i64 0, .string (⟨#[]⟩ : ByteArray), .int .i64 0, .int .i64 0, .int .i64 0, .bool false, .string (⟨#[]⟩ : ByteArray)] 27 (0, 0)) (by (with_reducible repeat (first | refine kN_ ?_ _ | refine kD_ ?_ | refine kA_ ?_ _)); exact BK331.out) hb); have n1_ := Aside0.mk (J7.below (by repeat (first | (with_reducible first | exact HI334.out | apply J7.alloc | apply J7.drewN | apply J7.drew | apply J7.set_0 | apply J7.set_1 | refine J7.far ?_ NB334_331.out _ | refine J7.far ?_ NB334_342.out _) | exact HI334.out)) hb); have n2_ := Aside0.mk (kB_ (g := gb342) (o := .cells #[.int .i64 t336, .int .i64 t339, .int .i64 t343, .string (⟨#[]⟩ : ByteArray), .string (⟨#[]⟩ : ByteArray), .string (⟨#[]⟩ : ByteArray), .int .i64 0, .string (⟨#[]⟩ : ByteArray), .int .i64 t346, .int .i64 t349, .int .i64 t352, .bool (t355 == 1), .string t358] 27 (0, 0)) (by (with_reducible repeat (first | refine kN_ ?_ _ | refine kD_ ?_ | refine kA_ ?_ _)); exact BK342.out) hb); have n3_ := Aside0.mk (bT_ (by repeat (first | (with_reducible first | exact HB.out | apply bA_ | apply bN_ | apply bD_ | refine bS_ ?_ (J7.ge HI334.out) | refine bS_ ?_ GE331.out | refine bS_ ?_ GE342.out) | exact HB.out)) hb); have n4_ := Aside0.mk (hbox); have n5_ := Aside0.mk ((by rw [hg]; exact (bZ_ (by repeat (first | (with_reducible first | exact HB.out | apply bA_ | apply bN_ | apply bD_ | refine bS_ ?_ (J7.ge HI334.out) | refine bS_ ?_ GE331.out | refine bS_ ?_ GE342.out) | exact HB.out))) : w.heap.size ≤ gb373)); have n6_ := Aside0.mk ((by rw [hg]; exact (bZ_ (by repeat (first | (with_reducible first | exact HB.out | apply bA_ | apply bN_ | apply bD_ | refine bS_ ?_ (J7.ge HI334.out) | refine bS_ ?_ GE331.out | refine bS_ ?_ GE342.out) | exact HB.out))) : w.heap.size ≤ gb373)); have n7_ := Aside0.mk ((by rw [hg]; exact Nat.ne_of_lt (blk_lt (g := gb331) (o := .cells #[.int .i64 0, .int .i64 0, .int .i64 0, .string (⟨#[]⟩ : ByteArray), .string (⟨#[]⟩ : ByteArray), .string (⟨#[]⟩ : ByteArray), .int .i64 0, .string (⟨#[]⟩ : ByteArray), .int .i64 0, .int .i64 0, .int .i64 0, .bool false, .string (⟨#[]⟩ : ByteArray)] 27 (0, 0)) (by (with_reducible repeat (first | refine kN_ ?_ _ | refine kD_ ?_ | refine kA_ ?_ _)); exact BK331.out)) : gb331 ≠ gb373)); have n8_ := Aside0.mk ((by rw [hg]; exact Nat.ne_of_gt (blk_lt (g := gb331) (o := .cells #[.int .i64 0, .int .i64 0, .int .i64 0, .string (⟨#[]⟩ : ByteArray), .string (⟨#[]⟩ : ByteArray), .string (⟨#[]⟩ : ByteArray), .int .i64 0, .string (⟨#[]⟩ : ByteArray), .int .i64 0, .int .i64 0, .int .i64 0, .bool false, .string (⟨#[]⟩ : ByteArray)] 27 (0, 0)) (by (with_reducible repeat (first | refine kN_ ?_ _ | refine kD_ ?_ | refine kA_ ?_ _)); exact BK331.out)) : gb373 ≠ gb331)); have n9_ := Aside0.mk ((by rw [hg]; exact Nat.ne_of_lt (blk_lt (g := gb342) (o := .cells #[.int .i64 t336, .int .i64 t339, .int .i64 t343, .string (⟨#[]⟩ : ByteArray), .string (⟨#[]⟩ : ByteArray), .string (⟨#[]⟩ : ByteArray), .int .i64 0, .string (⟨#[]⟩ : ByteArray), .int .i64 t346, .int .i64 t349, .int .i64 t352, .bool (t355 == 1), .string t358] 27 (0, 0)) (by (with_reducible repeat (first | refine kN_ ?_ _ | refine kD_ ?_ | refine kA_ ?_ _)); exact BK342.out)) : gb342 ≠ gb373)); have n10_ := Aside0.mk ((by rw [hg]; exact Nat.ne_of_gt (blk_lt (g := gb342) (o := .cells #[.int .i64 t336, .int .i64 t339, .int .i64 t343, .string (⟨#[]⟩ : ByteArray), .string (⟨#[]⟩ : ByteArray), .string (⟨#[]⟩ : ByteArray), .int .i64 0, .string (⟨#[]⟩ : ByteArray), .int .i64 t346, .int .i64 t349, .int .i64 t352, .bool (t355 == 1), .string t358] 27 (0, 0)) (by (with_reducible repeat (first | refine kN_ ?_ _ | refine kD_ ?_ | refine kA_ ?_ _)); exact BK342.out)) : gb373 ≠ gb342)); have n11_ := Aside0.mk ((by rw [hg]; exact Nat.ne_of_lt (J7.lt (show J7 w _ g334 t365 t366 from by repeat (first | (with_reducible first | exact HI334.out | apply J7.alloc | apply J7.drewN | apply J7.drew | apply J7.set_0 | apply J7.set_1 | refine J7.far ?_ NB334_331.out _ | refine J7.far ?_ NB334_342.out _) | exact HI334.out))) : g334 ≠ gb373)); have n12_ := Aside0.mk ((by rw [hg]; exact Nat.ne_of_gt (J7.lt (show J7 w _ g334 t365 t366 from by repeat (first | (with_reducible first | exact HI334.out | apply J7.alloc | apply J7.drewN | apply J7.drew | apply J7.set_0 | apply J7.set_1 | refine J7.far ?_ NB334_331.out _ | refine J7.far ?_ NB334_342.out _) | exact HI334.out))) : gb373 ≠ g334)); clear BK331; clear HI334; clear BK342; clear HB; have BK331 := n0_; have HI334 := n1_; have BK342 := n2_; have HB := n3_; have BK373 := n4_; have GW373 := n5_; have GE373 := n6_; have NB331_373 := n7_; have NB373_331 := n8_; have NB342_373 := n9_; have NB373_342 := n10_; have NB334_373 := n11_; have NB373_334 := n12_; clear n0_ n1_ n2_ n3_ n4_ n5_ n6_ n7_ n8_ n9_ n10_ n11_ n12_; clear hb hbox hg; have hnb39 := NB373_331.out; have hnc39 := NB331_373.out; have hnb40 := NB373_342.out; have hnc40 := NB342_373.out; have hnb41 := NB373_334.out; have hnc41 := NB334_373.out; obtain ⟨_,_,_,_,_⟩ := cell5 BK373.out; obtain ⟨_,_,_,_,_⟩ := froz5 BK373.out; obtain ⟨_,_,_,_,_,_,_,_,_,_,_,_,_⟩ := cell13 BK342.out; obtain ⟨_,_,_,_,_,_,_,_,_,_,_,_,_⟩ := froz13 BK342.out))
  have H := HQ_.out
  clear HQ_
  by_cases c16 : t374 = 0
  ·rw [if_pos c16] at H
   have c16b0 : (t374 == 0) = true := beq_iff_eq.mpr c16
   have c16b1 : (t374 != 0) = false := bne_eq_false_iff_eq.mpr c16
   clear c16
   by_cases c17 : t372 = 0
   ·rw [if_pos c17] at H
    have c17b0 : (t372 == 0) = true := beq_iff_eq.mpr c17
    have c17b1 : (t372 != 0) = false := bne_eq_false_iff_eq.mpr c17
    clear c17
    by_cases c18 : t355 > 1
    ·rw [if_pos c18] at H
     have c18b0 : decide (1 < t355) = true := decide_eq_true c18
     clear c18
     simp only [Option.some.injEq, Prod.mk.injEq] at H
     obtain ⟨rfl, rfl, rfl, rfl, rfl, rfl, rfl, rfl, rfl, rfl, rfl, rfl, rfl, rfl⟩ := H
     go_wp2_with (first | ((with_reducible refine gC_ (f := 39) rfl ?_); refine goesL_ (some 55) rfl rfl Tryd.func39 (by kernel_rfl) rfl #[.pointer (some ⟨g334, 0, none⟩)] rfl (by (try simp only [List.map_toArray, List.map_cons, List.map_nil]); first | done | rfl | (simp only [List.length_drop, List.length_take]; rfl)) ?_; (with_reducible refine (oR_Done.calls g334 t365 t366 t374 t375 t376 w _ ?side1 ?side2 A15.out).mono ?_); (case side1 => repeat (first | (with_reducible first | exact HI334.out | apply J7.alloc | apply J7.drewN | apply J7.drew | apply J7.set_0 | apply J7.set_1 | refine J7.far ?_ NB334_331.out _ | refine J7.far ?_ NB334_342.out _ | refine J7.far ?_ NB334_373.out _) | exact HI334.out)); (case side2 => repeat (first | (with_reducible first | exact HB.out | apply bA_ | apply bN_ | apply bD_ | refine bS_ ?_ (J7.ge HI334.out) | refine bS_ ?_ GE331.out | refine bS_ ?_ GE342.out | refine bS_ ?_ GE373.out) | exact HB.out)); rintro e w44 ⟨rfl, hi, hb, hk⟩; refine ⟨_, rfl, ?_⟩; have n0_ := Aside0.mk (KeepBut.blk hk (g' := gb331) (o := .cells #[.int .i64 0, .int .i64 0, .int .i64 0, .string (⟨#[]⟩ : ByteArray), .string (⟨#[]⟩ : ByteArray), .string (⟨#[]⟩ : ByteArray), .int .i64 0, .string (⟨#[]⟩ : ByteArray), .int .i64 0, .int .i64 0, .int .i64 0, .bool false, .string (⟨#[]⟩ : ByteArray)] 27 (0, 0)) (by (with_reducible repeat (first | refine kN_ ?_ _ | refine kD_ ?_ | refine kA_ ?_ _)); refine kF_ ?_ NB331_342.out _; (with_reducible repeat (first | refine kN_ ?_ _ | refine kD_ ?_ | refine kA_ ?_ _)); refine kF_ ?_ NB331_342.out _; (with_reducible repeat (first | refine kN_ ?_ _ | refine kD_ ?_ | refine kA_ ?_ _)); refine kF_ ?_ NB331_342.out _; (with_reducible repeat (first | refine kN_ ?_ _ | refine kD_ ?_ | refine kA_ ?_ _)); refine kF_ ?_ NB331_342.out _; (with_reducible repeat (first | refine kN_ ?_ _ | refine kD_ ?_ | refine kA_ ?_ _)); refine kF_ ?_ NB331_342.out _; (with_reducible repeat (first | refine kN_ ?_ _ | refine kD_ ?_ | refine kA_ ?_ _)); refine kF_ ?_ NB331_373.out _; (with_reducible repeat (first | refine kN_ ?_ _ | refine kD_ ?_ | refine kA_ ?_ _)); refine kF_ ?_ NB331_373.out _; (with_reducible repeat (first | refine kN_ ?_ _ | refine kD_ ?_ | refine kA_ ?_ _)); refine kF_ ?_ NB331_373.out _; (with_reducible repeat (first | refine kN_ ?_ _ | refine kD_ ?_ | refine kA_ ?_ _)); refine kF_ ?_ NB331_373.out _; (with_reducible repeat (first | refine kN_ ?_ _ | refine kD_ ?_ | refine kA_ ?_ _)); refine kF_ ?_ NB331_373.out _; (with_reducible repeat (first | refine kN_ ?_ _ | refine kD_ ?_ | refine kA_ ?_ _)); exact BK331.out) NB331_334.out (by simp)); have n1_ := Aside0.mk (KeepBut.blk hk (g' := gb342) (o := .cells #[.int .i64 t336, .int .i64 t339, .int .i64 t343, .string t367, .string t368, .string t369, .int .i64 t370, .string t371, .int .i64 t346, .int .i64 t349, .int .i64 t352, .bool (t355 == 1), .string t358] 27 (0, 0)) (by (with_reducible repeat (first | refine kN_ ?_ _ | refine kD_ ?_ | refine kA_ ?_ _)); refine blk_p13_3_7 (show _ = some (Obj.cells #[.int .i64 t336, .int .i64 t339, .int .i64 t343, .string (⟨#[]⟩ : ByteArray), .string (⟨#[]⟩ : ByteArray), .string (⟨#[]⟩ : ByteArray), .int .i64 0, .string (⟨#[]⟩ : ByteArray), .int .i64 t346, .int .i64 t349, .int .i64 t352, .bool (t355 == 1), .string t358] _ (0, 0)) from ?_); (with_reducible repeat (first | refine kN_ ?_ _ | refine kD_ ?_ | refine kA_ ?_ _)); refine kF_ ?_ NB342_373.out _; (with_reducible repeat (first | refine kN_ ?_ _ | refine kD_ ?_ | refine kA_ ?_ _)); refine kF_ ?_ NB342_373.out _; (with_reducible repeat (first | refine kN_ ?_ _ | refine kD_ ?_ | refine kA_ ?_ _)); refine kF_ ?_ NB342_373.out _; (with_reducible repeat (first | refine kN_ ?_ _ | refine kD_ ?_ | refine kA_ ?_ _)); refine kF_ ?_ NB342_373.out _; (with_reducible repeat (first | refine kN_ ?_ _ | refine kD_ ?_ | refine kA_ ?_ _)); refine kF_ ?_ NB342_373.out _; (with_reducible repeat (first | refine kN_ ?_ _ | refine kD_ ?_ | refine kA_ ?_ _)); exact BK342.out) NB342_334.out (by simp)); have n2_ := Aside0.mk (KeepBut.blk hk (g' := gb373) (o := .cells #[.string t367, .string t368, .string t369, .int .i64 t370, .string t371] 23 (0, 0)) (by (with_reducible repeat (first | refine kN_ ?_ _ | refine kD_ ?_ | refine kA_ ?_ _)); refine kF_ ?_ NB373_342.out _; (with_reducible repeat (first | refine kN_ ?_ _ | refine kD_ ?_ | refine kA_ ?_ _)); refine kF_ ?_ NB373_342.out _; (with_reducible repeat (first | refine kN_ ?_ _ | refine kD_ ?_ | refine kA_ ?_ _)); refine kF_ ?_ NB373_342.out _; (with_reducible repeat (first | refine kN_ ?_ _ | refine kD_ ?_ | refine kA_ ?_ _)); refine kF_ ?_ NB373_342.out _; (with_reducible repeat (first | refine kN_ ?_ _ | refine kD_ ?_ | refine kA_ ?_ _)); refine kF_ ?_ NB373_342.out _; (with_reducible repeat (first | refine kN_ ?_ _ | refine kD_ ?_ | refine kA_ ?_ _)); refine blk_p5_0_4 (show _ = some (Obj.cells #[.string (⟨#[]⟩ : ByteArray), .string (⟨#[]⟩ : ByteArray), .string (⟨#[]⟩ : ByteArray), .int .i64 0, .string (⟨#[]⟩ : ByteArray)] _ (0, 0)) from ?_); (with_reducible repeat (first | refine kN_ ?_ _ | refine kD_ ?_ | refine kA_ ?_ _)); exact BK373.out) NB373_334.out (by simp)); have n3_ := Aside0.mk (hb); have n4_ := Aside0.mk (hi); clear BK331; clear BK342; clear BK373; clear HB; clear HI334; have BK331 := n0_; have BK342 := n1_; have BK373 := n2_; have HB := n3_; have HI334 := n4_; clear n0_ n1_ n2_ n3_ n4_; (try clear hb); (try clear hb2); (try clear hk); (try clear hi); have hnb45 := NB331_334.out; have hnc45 := NB334_331.out; obtain ⟨_,_,_,_,_,_,_,_,_,_,_,_,_⟩ := cell13 BK331.out; obtain ⟨_,_,_,_,_,_,_,_,_,_,_,_,_⟩ := froz13 BK331.out))
     refine bodyPost_ret (results_ct rfl _ _ gb331 27 #[.int .i64 0, .int .i64 0, .int .i64 0, .string (⟨#[]⟩ : ByteArray), .string (⟨#[]⟩ : ByteArray), .string (⟨#[]⟩ : ByteArray), .int .i64 0, .string (⟨#[]⟩ : ByteArray), .int .i64 0, .int .i64 0, .int .i64 0, .bool false, .string (⟨#[]⟩ : ByteArray)] (0, 0) _ rfl (by (with_reducible repeat (first | refine kN_ ?_ _ | refine kD_ ?_ | refine kA_ ?_ _)); refine blk_p13_0_12 (show _ = some (Obj.cells #[.int .i64 0, .int .i64 0, .int .i64 0, .string (⟨#[]⟩ : ByteArray), .string (⟨#[]⟩ : ByteArray), .string (⟨#[]⟩ : ByteArray), .int .i64 0, .string (⟨#[]⟩ : ByteArray), .int .i64 0, .int .i64 0, .int .i64 0, .bool false, .string (⟨#[]⟩ : ByteArray)] _ (0, 0)) from ?_); (with_reducible repeat (first | refine kN_ ?_ _ | refine kD_ ?_ | refine kA_ ?_ _)); exact BK331.out) Tryd.underlying27 rfl (by kernel_rfl)) rfl ?_
     exact ⟨by first | rfl | (simp [errW_none, errW_some] <;> rfl) | (simp [*, errW_none, errW_some] <;> rfl), by repeat (first | (with_reducible first | exact HB.out | apply bA_ | apply bN_ | apply bD_ | refine bS_ ?_ (J7.ge HI334.out) | refine bS_ ?_ GE331.out | refine bS_ ?_ GE342.out | refine bS_ ?_ GE373.out) | exact HB.out)⟩
    ·rw [if_neg c18] at H
     have c18b0 : decide (1 < t355) = false := decide_eq_false c18
     clear c18
     replace H := Option.bind_eq_some_iff.mp H
     obtain ⟨t377, A470, H⟩ := H
     try dsimp only at H
     have A47 := Aside0.mk A470
     clear A470
     by_cases c48 : t377 = 0
     ·rw [if_pos c48] at H
      have c48b0 : (t377 == 0) = true := beq_iff_eq.mpr c48
      have c48b1 : (t377 != 0) = false := bne_eq_false_iff_eq.mpr c48
      clear c48
      simp only [Option.some.injEq, Prod.mk.injEq] at H
      obtain ⟨rfl, rfl, rfl, rfl, rfl, rfl, rfl, rfl, rfl, rfl, rfl, rfl, rfl, rfl⟩ := H
      go_wp2_with (first | ((with_reducible refine gC_ (f := 39) rfl ?_); refine goesL_ (some 55) rfl rfl Tryd.func39 (by kernel_rfl) rfl #[.pointer (some ⟨g334, 0, none⟩)] rfl (by (try simp only [List.map_toArray, List.map_cons, List.map_nil]); first | done | rfl | (simp only [List.length_drop, List.length_take]; rfl)) ?_; (with_reducible refine (oR_Done.calls g334 t365 t366 t374 t375 t376 w _ ?side1 ?side2 A15.out).mono ?_); (case side1 => repeat (first | (with_reducible first | exact HI334.out | apply J7.alloc | apply J7.drewN | apply J7.drew | apply J7.set_0 | apply J7.set_1 | refine J7.far ?_ NB334_331.out _ | refine J7.far ?_ NB334_342.out _ | refine J7.far ?_ NB334_373.out _) | exact HI334.out)); (case side2 => repeat (first | (with_reducible first | exact HB.out | apply bA_ | apply bN_ | apply bD_ | refine bS_ ?_ (J7.ge HI334.out) | refine bS_ ?_ GE331.out | refine bS_ ?_ GE342.out | refine bS_ ?_ GE373.out) | exact HB.out)); rintro e w74 ⟨rfl, hi, hb, hk⟩; refine ⟨_, rfl, ?_⟩; have n0_ := Aside0.mk (KeepBut.blk hk (g' := gb331) (o := .cells #[.int .i64 0, .int .i64 0, .int .i64 0, .string (⟨#[]⟩ : ByteArray), .string (⟨#[]⟩ : ByteArray), .string (⟨#[]⟩ : ByteArray), .int .i64 0, .string (⟨#[]⟩ : ByteArray), .int .i64 0, .int .i64 0, .int .i64 0, .bool false, .string (⟨#[]⟩ : ByteArray)] 27 (0, 0)) (by (with_reducible repeat (first | refine kN_ ?_ _ | refine kD_ ?_ | refine kA_ ?_ _)); refine kF_ ?_ NB331_342.out _; (with_reducible repeat (first | refine kN_ ?_ _ | refine kD_ ?_ | refine kA_ ?_ _)); refine kF_ ?_ NB331_342.out _; (with_reducible repeat (first | refine kN_ ?_ _ | refine kD_ ?_ | refine kA_ ?_ _)); refine kF_ ?_ NB331_342.out _; (with_reducible repeat (first | refine kN_ ?_ _ | refine kD_ ?_ | refine kA_ ?_ _)); refine kF_ ?_ NB331_342.out _; (with_reducible repeat (first | refine kN_ ?_ _ | refine kD_ ?_ | refine kA_ ?_ _)); refine kF_ ?_ NB331_342.out _; (with_reducible repeat (first | refine kN_ ?_ _ | refine kD_ ?_ | refine kA_ ?_ _)); refine kF_ ?_ NB331_373.out _; (with_reducible repeat (first | refine kN_ ?_ _ | refine kD_ ?_ | refine kA_ ?_ _)); refine kF_ ?_ NB331_373.out _; (with_reducible repeat (first | refine kN_ ?_ _ | refine kD_ ?_ | refine kA_ ?_ _)); refine kF_ ?_ NB331_373.out _; (with_reducible repeat (first | refine kN_ ?_ _ | refine kD_ ?_ | refine kA_ ?_ _)); refine kF_ ?_ NB331_373.out _; (with_reducible repeat (first | refine kN_ ?_ _ | refine kD_ ?_ | refine kA_ ?_ _)); refine kF_ ?_ NB331_373.out _; (with_reducible repeat (first | refine kN_ ?_ _ | refine kD_ ?_ | refine kA_ ?_ _)); exact BK331.out) NB331_334.out (by simp)); have n1_ := Aside0.mk (KeepBut.blk hk (g' := gb342) (o := .cells #[.int .i64 t336, .int .i64 t339, .int .i64 t343, .string t367, .string t368, .string t369, .int .i64 t370, .string t371, .int .i64 t346, .int .i64 t349, .int .i64 t352, .bool (t355 == 1), .string t358] 27 (0, 0)) (by (with_reducible repeat (first | refine kN_ ?_ _ | refine kD_ ?_ | refine kA_ ?_ _)); refine blk_p13_3_7 (show _ = some (Obj.cells #[.int .i64 t336, .int .i64 t339, .int .i64 t343, .string (⟨#[]⟩ : ByteArray), .string (⟨#[]⟩ : ByteArray), .string (⟨#[]⟩ : ByteArray), .int .i64 0, .string (⟨#[]⟩ : ByteArray), .int .i64 t346, .int .i64 t349, .int .i64 t352, .bool (t355 == 1), .string t358] _ (0, 0)) from ?_); (with_reducible repeat (first | refine kN_ ?_ _ | refine kD_ ?_ | refine kA_ ?_ _)); refine kF_ ?_ NB342_373.out _; (with_reducible repeat (first | refine kN_ ?_ _ | refine kD_ ?_ | refine kA_ ?_ _)); refine kF_ ?_ NB342_373.out _; (with_reducible repeat (first | refine kN_ ?_ _ | refine kD_ ?_ | refine kA_ ?_ _)); refine kF_ ?_ NB342_373.out _; (with_reducible repeat (first | refine kN_ ?_ _ | refine kD_ ?_ | refine kA_ ?_ _)); refine kF_ ?_ NB342_373.out _; (with_reducible repeat (first | refine kN_ ?_ _ | refine kD_ ?_ | refine kA_ ?_ _)); refine kF_ ?_ NB342_373.out _; (with_reducible repeat (first | refine kN_ ?_ _ | refine kD_ ?_ | refine kA_ ?_ _)); exact BK342.out) NB342_334.out (by simp)); have n2_ := Aside0.mk (KeepBut.blk hk (g' := gb373) (o := .cells #[.string t367, .string t368, .string t369, .int .i64 t370, .string t371] 23 (0, 0)) (by (with_reducible repeat (first | refine kN_ ?_ _ | refine kD_ ?_ | refine kA_ ?_ _)); refine kF_ ?_ NB373_342.out _; (with_reducible repeat (first | refine kN_ ?_ _ | refine kD_ ?_ | refine kA_ ?_ _)); refine kF_ ?_ NB373_342.out _; (with_reducible repeat (first | refine kN_ ?_ _ | refine kD_ ?_ | refine kA_ ?_ _)); refine kF_ ?_ NB373_342.out _; (with_reducible repeat (first | refine kN_ ?_ _ | refine kD_ ?_ | refine kA_ ?_ _)); refine kF_ ?_ NB373_342.out _; (with_reducible repeat (first | refine kN_ ?_ _ | refine kD_ ?_ | refine kA_ ?_ _)); refine kF_ ?_ NB373_342.out _; (with_reducible repeat (first | refine kN_ ?_ _ | refine kD_ ?_ | refine kA_ ?_ _)); refine blk_p5_0_4 (show _ = some (Obj.cells #[.string (⟨#[]⟩ : ByteArray), .string (⟨#[]⟩ : ByteArray), .string (⟨#[]⟩ : ByteArray), .int .i64 0, .string (⟨#[]⟩ : ByteArray)] _ (0, 0)) from ?_); (with_reducible repeat (first | refine kN_ ?_ _ | refine kD_ ?_ | refine kA_ ?_ _)); exact BK373.out) NB373_334.out (by simp)); have n3_ := Aside0.mk (hb); have n4_ := Aside0.mk (hi); clear BK331; clear BK342; clear BK373; clear HB; clear HI334; have BK331 := n0_; have BK342 := n1_; have BK373 := n2_; have HB := n3_; have HI334 := n4_; clear n0_ n1_ n2_ n3_ n4_; (try clear hb); (try clear hb2); (try clear hk); (try clear hi); obtain ⟨_,_,_,_,_,_,_,_,_,_,_,_,_⟩ := cell13 BK342.out; obtain ⟨_,_,_,_,_,_,_,_,_,_,_,_,_⟩ := froz13 BK342.out) | (go_at_call 15; (with_reducible refine (ticket_Check.calls k t336 t339 t343 t367 t368 t369 t370 t371 t346 t349 t352 (t355 == 1) t358 t377 _ ⟨TabW.now HT.out (by repeat (first | (with_reducible first | exact HB.out | apply bA_ | apply bN_ | apply bD_ | refine bS_ ?_ (J7.ge HI334.out) | refine bS_ ?_ GE331.out | refine bS_ ?_ GE342.out | refine bS_ ?_ GE373.out) | exact HB.out))⟩ A47.out).mono ?_); rintro e w76 ⟨rfl, hb⟩; have n0_ := Aside0.mk (kB_ (g := gb331) (o := .cells #[.int .i64 0, .int .i64 0, .int .i64 0, .string (⟨#[]⟩ : ByteArray), .string (⟨#[]⟩ : ByteArray), .string (⟨#[]⟩ : ByteArray), .int .i64 0, .string (⟨#[]⟩ : ByteArray), .int .i64 0, .int .i64 0, .int .i64 0, .bool false, .string (⟨#[]⟩ : ByteArray)] 27 (0, 0)) (by (with_reducible repeat (first | refine kN_ ?_ _ | refine kD_ ?_ | refine kA_ ?_ _)); exact BK331.out) hb); have n1_ := Aside0.mk (J7.below (by repeat (first | (with_reducible first | exact HI334.out | apply J7.alloc | apply J7.drewN | apply J7.drew | apply J7.set_0 | apply J7.set_1 | refine J7.far ?_ NB334_331.out _ | refine J7.far ?_ NB334_342.out _ | refine J7.far ?_ NB334_373.out _) | exact HI334.out)) hb); have n2_ := Aside0.mk (kB_ (g := gb342) (o := .cells #[.int .i64 t336, .int .i64 t339, .int .i64 t343, .string t367, .string t368, .string t369, .int .i64 t370, .string t371, .int .i64 t346, .int .i64 t349, .int .i64 t352, .bool (t355 == 1), .string t358] 27 (0, 0)) (by (with_reducible repeat (first | refine kN_ ?_ _ | refine kD_ ?_ | refine kA_ ?_ _)); exact BK342.out) hb); have n3_ := Aside0.mk (kB_ (g := gb373) (o := .cells #[.string t367, .string t368, .string t369, .int .i64 t370, .string t371] 23 (0, 0)) (by (with_reducible repeat (first | refine kN_ ?_ _ | refine kD_ ?_ | refine kA_ ?_ _)); exact BK373.out) hb); have n4_ := Aside0.mk (bT_ (by repeat (first | (with_reducible first | exact HB.out | apply bA_ | apply bN_ | apply bD_ | refine bS_ ?_ (J7.ge HI334.out) | refine bS_ ?_ GE331.out | refine bS_ ?_ GE342.out | refine bS_ ?_ GE373.out) | exact HB.out)) hb); clear BK331; clear HI334; clear BK342; clear BK373; clear HB; have BK331 := n0_; have HI334 := n1_; have BK342 := n2_; have BK373 := n3_; have HB := n4_; clear n0_ n1_ n2_ n3_ n4_; (try clear hb); (try clear hb2); (try clear hk); (try clear hi); obtain ⟨_,_,_,_,_,_,_,_,_,_,_,_,_⟩ := cell13 BK342.out; obtain ⟨_,_,_,_,_,_,_,_,_,_,_,_,_⟩ := froz13 BK342.out; have hnb78 := NB331_334.out; have hnc78 := NB334_331.out; obtain ⟨_,_,_,_,_,_,_,_,_,_,_,_,_⟩ := cell13 BK331.out; obtain ⟨_,_,_,_,_,_,_,_,_,_,_,_,_⟩ := froz13 BK331.out))
      refine bodyPost_ret (results_ct rfl _ _ gb331 27 #[.int .i64 t336, .int .i64 t339, .int .i64 t343, .string t367, .string t368, .string t369, .int .i64 t370, .string t371, .int .i64 t346, .int .i64 t349, .int .i64 t352, .bool (t355 == 1), .string t358] (0, 0) _ rfl (by (with_reducible repeat (first | refine kN_ ?_ _ | refine kD_ ?_ | refine kA_ ?_ _)); refine blk_p13_0_12 (show _ = some (Obj.cells #[.int .i64 0, .int .i64 0, .int .i64 0, .string (⟨#[]⟩ : ByteArray), .string (⟨#[]⟩ : ByteArray), .string (⟨#[]⟩ : ByteArray), .int .i64 0, .string (⟨#[]⟩ : ByteArray), .int .i64 0, .int .i64 0, .int .i64 0, .bool false, .string (⟨#[]⟩ : ByteArray)] _ (0, 0)) from ?_); (with_reducible repeat (first | refine kN_ ?_ _ | refine kD_ ?_ | refine kA_ ?_ _)); exact BK331.out) Tryd.underlying27 rfl (by kernel_rfl)) rfl ?_
      exact ⟨by first | rfl | (simp [errW_none, errW_some] <;> rfl) | (simp [*, errW_none, errW_some] <;> rfl), by repeat (first | (with_reducible first | exact HB.out | apply bA_ | apply bN_ | apply bD_ | refine bS_ ?_ (J7.ge HI334.out) | refine bS_ ?_ GE331.out | refine bS_ ?_ GE342.out | refine bS_ ?_ GE373.out) | exact HB.out)⟩
     ·rw [if_neg c48] at H
      have c48b0 : (t377 == 0) = false := beq_eq_false_iff_ne.mpr c48
      have c48b1 : (t377 != 0) = true := bne_iff_ne.mpr c48
      simp only [Option.some.injEq, Prod.mk.injEq] at H
      obtain ⟨rfl, rfl, rfl, rfl, rfl, rfl, rfl, rfl, rfl, rfl, rfl, rfl, rfl, rfl⟩ := H
      go_wp2_with (first | ((with_reducible refine gC_ (f := 39) rfl ?_); refine goesL_ (some 55) rfl rfl Tryd.func39 (by kernel_rfl) rfl #[.pointer (some ⟨g334, 0, none⟩)] rfl (by (try simp only [List.map_toArray, List.map_cons, List.map_nil]); first | done | rfl | (simp only [List.length_drop, List.length_take]; rfl)) ?_; (with_reducible refine (oR_Done.calls g334 t365 t366 t374 t375 t376 w _ ?side1 ?side2 A15.out).mono ?_); (case side1 => repeat (first | (with_reducible first | exact HI334.out | apply J7.alloc | apply J7.drewN | apply J7.drew | apply J7.set_0 | apply J7.set_1 | refine J7.far ?_ NB334_331.out _ | refine J7.far ?_ NB334_342.out _ | refine J7.far ?_ NB334_373.out _) | exact HI334.out)); (case side2 => repeat (first | (with_reducible first | exact HB.out | apply bA_ | apply bN_ | apply bD_ | refine bS_ ?_ (J7.ge HI334.out) | refine bS_ ?_ GE331.out | refine bS_ ?_ GE342.out | refine bS_ ?_ GE373.out) | exact HB.out)); rintro e w105 ⟨rfl, hi, hb, hk⟩; refine ⟨_, rfl, ?_⟩; have n0_ := Aside0.mk (KeepBut.blk hk (g' := gb331) (o := .cells #[.int .i64 0, .int .i64 0, .int .i64 0, .string (⟨#[]⟩ : ByteArray), .string (⟨#[]⟩ : ByteArray), .string (⟨#[]⟩ : ByteArray), .int .i64 0, .string (⟨#[]⟩ : ByteArray), .int .i64 0, .int .i64 0, .int .i64 0, .bool false, .string (⟨#[]⟩ : ByteArray)] 27 (0, 0)) (by (with_reducible repeat (first | refine kN_ ?_ _ | refine kD_ ?_ | refine kA_ ?_ _)); refine kF_ ?_ NB331_342.out _; (with_reducible repeat (first | refine kN_ ?_ _ | refine kD_ ?_ | refine kA_ ?_ _)); refine kF_ ?_ NB331_342.out _; (with_reducible repeat (first | refine kN_ ?_ _ | refine kD_ ?_ | refine kA_ ?_ _)); refine kF_ ?_ NB331_342.out _; (with_reducible repeat (first | refine kN_ ?_ _ | refine kD_ ?_ | refine kA_ ?_ _)); refine kF_ ?_ NB331_342.out _; (with_reducible repeat (first | refine kN_ ?_ _ | refine kD_ ?_ | refine kA_ ?_ _)); refine kF_ ?_ NB331_342.out _; (with_reducible repeat (first | refine kN_ ?_ _ | refine kD_ ?_ | refine kA_ ?_ _)); refine kF_ ?_ NB331_373.out _; (with_reducible repeat (first | refine kN_ ?_ _ | refine kD_ ?_ | refine kA_ ?_ _)); refine kF_ ?_ NB331_373.out _; (with_reducible repeat (first | refine kN_ ?_ _ | refine kD_ ?_ | refine kA_ ?_ _)); refine kF_ ?_ NB331_373.out _; (with_reducible repeat (first | refine kN_ ?_ _ | refine kD_ ?_ | refine kA_ ?_ _)); refine kF_ ?_ NB331_373.out _; (with_reducible repeat (first | refine kN_ ?_ _ | refine kD_ ?_ | refine kA_ ?_ _)); refine kF_ ?_ NB331_373.out _; (with_reducible repeat (first | refine kN_ ?_ _ | refine kD_ ?_ | refine kA_ ?_ _)); exact BK331.out) NB331_334.out (by simp)); have n1_ := Aside0.mk (KeepBut.blk hk (g' := gb342) (o := .cells #[.int .i64 t336, .int .i64 t339, .int .i64 t343, .string t367, .string t368, .string t369, .int .i64 t370, .string t371, .int .i64 t346, .int .i64 t349, .int .i64 t352, .bool (t355 == 1), .string t358] 27 (0, 0)) (by (with_reducible repeat (first | refine kN_ ?_ _ | refine kD_ ?_ | refine kA_ ?_ _)); refine blk_p13_3_7 (show _ = some (Obj.cells #[.int .i64 t336, .int .i64 t339, .int .i64 t343, .string (⟨#[]⟩ : ByteArray), .string (⟨#[]⟩ : ByteArray), .string (⟨#[]⟩ : ByteArray), .int .i64 0, .string (⟨#[]⟩ : ByteArray), .int .i64 t346, .int .i64 t349, .int .i64 t352, .bool (t355 == 1), .string t358] _ (0, 0)) from ?_); (with_reducible repeat (first | refine kN_ ?_ _ | refine kD_ ?_ | refine kA_ ?_ _)); refine kF_ ?_ NB342_373.out _; (with_reducible repeat (first | refine kN_ ?_ _ | refine kD_ ?_ | refine kA_ ?_ _)); refine kF_ ?_ NB342_373.out _; (with_reducible repeat (first | refine kN_ ?_ _ | refine kD_ ?_ | refine kA_ ?_ _)); refine kF_ ?_ NB342_373.out _; (with_reducible repeat (first | refine kN_ ?_ _ | refine kD_ ?_ | refine kA_ ?_ _)); refine kF_ ?_ NB342_373.out _; (with_reducible repeat (first | refine kN_ ?_ _ | refine kD_ ?_ | refine kA_ ?_ _)); refine kF_ ?_ NB342_373.out _; (with_reducible repeat (first | refine kN_ ?_ _ | refine kD_ ?_ | refine kA_ ?_ _)); exact BK342.out) NB342_334.out (by simp)); have n2_ := Aside0.mk (KeepBut.blk hk (g' := gb373) (o := .cells #[.string t367, .string t368, .string t369, .int .i64 t370, .string t371] 23 (0, 0)) (by (with_reducible repeat (first | refine kN_ ?_ _ | refine kD_ ?_ | refine kA_ ?_ _)); refine kF_ ?_ NB373_342.out _; (with_reducible repeat (first | refine kN_ ?_ _ | refine kD_ ?_ | refine kA_ ?_ _)); refine kF_ ?_ NB373_342.out _; (with_reducible repeat (first | refine kN_ ?_ _ | refine kD_ ?_ | refine kA_ ?_ _)); refine kF_ ?_ NB373_342.out _; (with_reducible repeat (first | refine kN_ ?_ _ | refine kD_ ?_ | refine kA_ ?_ _)); refine kF_ ?_ NB373_342.out _; (with_reducible repeat (first | refine kN_ ?_ _ | refine kD_ ?_ | refine kA_ ?_ _)); refine kF_ ?_ NB373_342.out _; (with_reducible repeat (first | refine kN_ ?_ _ | refine kD_ ?_ | refine kA_ ?_ _)); refine blk_p5_0_4 (show _ = some (Obj.cells #[.string (⟨#[]⟩ : ByteArray), .string (⟨#[]⟩ : ByteArray), .string (⟨#[]⟩ : ByteArray), .int .i64 0, .string (⟨#[]⟩ : ByteArray)] _ (0, 0)) from ?_); (with_reducible repeat (first | refine kN_ ?_ _ | refine kD_ ?_ | refine kA_ ?_ _)); exact BK373.out) NB373_334.out (by simp)); have n3_ := Aside0.mk (hb); have n4_ := Aside0.mk (hi); clear BK331; clear BK342; clear BK373; clear HB; clear HI334; have BK331 := n0_; have BK342 := n1_; have BK373 := n2_; have HB := n3_; have HI334 := n4_; clear n0_ n1_ n2_ n3_ n4_; (try clear hb); (try clear hb2); (try clear hk); (try clear hi); obtain ⟨_,_,_,_,_,_,_,_,_,_,_,_,_⟩ := cell13 BK342.out; obtain ⟨_,_,_,_,_,_,_,_,_,_,_,_,_⟩ := froz13 BK342.out) | (go_at_call 15; (with_reducible refine (ticket_Check.calls k t336 t339 t343 t367 t368 t369 t370 t371 t346 t349 t352 (t355 == 1) t358 t377 _ ⟨TabW.now HT.out (by repeat (first | (with_reducible first | exact HB.out | apply bA_ | apply bN_ | apply bD_ | refine bS_ ?_ (J7.ge HI334.out) | refine bS_ ?_ GE331.out | refine bS_ ?_ GE342.out | refine bS_ ?_ GE373.out) | exact HB.out))⟩ A47.out).mono ?_); rintro e w107 ⟨rfl, hb⟩; have n0_ := Aside0.mk (kB_ (g := gb331) (o := .cells #[.int .i64 0, .int .i64 0, .int .i64 0, .string (⟨#[]⟩ : ByteArray), .string (⟨#[]⟩ : ByteArray), .string (⟨#[]⟩ : ByteArray), .int .i64 0, .string (⟨#[]⟩ : ByteArray), .int .i64 0, .int .i64 0, .int .i64 0, .bool false, .string (⟨#[]⟩ : ByteArray)] 27 (0, 0)) (by (with_reducible repeat (first | refine kN_ ?_ _ | refine kD_ ?_ | refine kA_ ?_ _)); exact BK331.out) hb); have n1_ := Aside0.mk (J7.below (by repeat (first | (with_reducible first | exact HI334.out | apply J7.alloc | apply J7.drewN | apply J7.drew | apply J7.set_0 | apply J7.set_1 | refine J7.far ?_ NB334_331.out _ | refine J7.far ?_ NB334_342.out _ | refine J7.far ?_ NB334_373.out _) | exact HI334.out)) hb); have n2_ := Aside0.mk (kB_ (g := gb342) (o := .cells #[.int .i64 t336, .int .i64 t339, .int .i64 t343, .string t367, .string t368, .string t369, .int .i64 t370, .string t371, .int .i64 t346, .int .i64 t349, .int .i64 t352, .bool (t355 == 1), .string t358] 27 (0, 0)) (by (with_reducible repeat (first | refine kN_ ?_ _ | refine kD_ ?_ | refine kA_ ?_ _)); exact BK342.out) hb); have n3_ := Aside0.mk (kB_ (g := gb373) (o := .cells #[.string t367, .string t368, .string t369, .int .i64 t370, .string t371] 23 (0, 0)) (by (with_reducible repeat (first | refine kN_ ?_ _ | refine kD_ ?_ | refine kA_ ?_ _)); exact BK373.out) hb); have n4_ := Aside0.mk (bT_ (by repeat (first | (with_reducible first | exact HB.out | apply bA_ | apply bN_ | apply bD_ | refine bS_ ?_ (J7.ge HI334.out) | refine bS_ ?_ GE331.out | refine bS_ ?_ GE342.out | refine bS_ ?_ GE373.out) | exact HB.out)) hb); clear BK331; clear HI334; clear BK342; clear BK373; clear HB; have BK331 := n0_; have HI334 := n1_; have BK342 := n2_; have BK373 := n3_; have HB := n4_; clear n0_ n1_ n2_ n3_ n4_; (try clear hb); (try clear hb2); (try clear hk); (try clear hi); have hnb108 := NB331_334.out; have hnc108 := NB334_331.out; obtain ⟨_,_,_,_,_,_,_,_,_,_,_,_,_⟩ := cell13 BK331.out; obtain ⟨_,_,_,_,_,_,_,_,_,_,_,_,_⟩ := froz13 BK331.out))
      refine bodyPost_ret (results_ct rfl _ _ gb331 27 #[.int .i64 0, .int .i64 0, .int .i64 0, .string (⟨#[]⟩ : ByteArray), .string (⟨#[]⟩ : ByteArray), .string (⟨#[]⟩ : ByteArray), .int .i64 0, .string (⟨#[]⟩ : ByteArray), .int .i64 0, .int .i64 0, .int .i64 0, .bool false, .string (⟨#[]⟩ : ByteArray)] (0, 0) _ rfl (by (with_reducible repeat (first | refine kN_ ?_ _ | refine kD_ ?_ | refine kA_ ?_ _)); refine blk_p13_0_12 (show _ = some (Obj.cells #[.int .i64 0, .int .i64 0, .int .i64 0, .string (⟨#[]⟩ : ByteArray), .string (⟨#[]⟩ : ByteArray), .string (⟨#[]⟩ : ByteArray), .int .i64 0, .string (⟨#[]⟩ : ByteArray), .int .i64 0, .int .i64 0, .int .i64 0, .bool false, .string (⟨#[]⟩ : ByteArray)] _ (0, 0)) from ?_); (with_reducible repeat (first | refine kN_ ?_ _ | refine kD_ ?_ | refine kA_ ?_ _)); exact BK331.out) Tryd.underlying27 rfl (by kernel_rfl)) rfl ?_
      exact ⟨by first | rfl | (simp [errW_none, errW_some] <;> rfl) | (simp [*, errW_none, errW_some] <;> rfl), by repeat (first | (with_reducible first | exact HB.out | apply bA_ | apply bN_ | apply bD_ | refine bS_ ?_ (J7.ge HI334.out) | refine bS_ ?_ GE331.out | refine bS_ ?_ GE342.out | refine bS_ ?_ GE373.out) | exact HB.out)⟩
   ·rw [if_neg c17] at H
    have c17b0 : (t372 == 0) = false := beq_eq_false_iff_ne.mpr c17
    have c17b1 : (t372 != 0) = true := bne_iff_ne.mpr c17
    simp only [Option.some.injEq, Prod.mk.injEq] at H
    obtain ⟨rfl, rfl, rfl, rfl, rfl, rfl, rfl, rfl, rfl, rfl, rfl, rfl, rfl, rfl⟩ := H
    go_wp2_with (first | ((with_reducible refine gC_ (f := 39) rfl ?_); refine goesL_ (some 55) rfl rfl Tryd.func39 (by kernel_rfl) rfl #[.pointer (some ⟨g334, 0, none⟩)] rfl (by (try simp only [List.map_toArray, List.map_cons, List.map_nil]); first | done | rfl | (simp only [List.length_drop, List.length_take]; rfl)) ?_; (with_reducible refine (oR_Done.calls g334 t365 t366 t374 t375 t376 w _ ?side1 ?side2 A15.out).mono ?_); (case side1 => repeat (first | (with_reducible first | exact HI334.out | apply J7.alloc | apply J7.drewN | apply J7.drew | apply J7.set_0 | apply J7.set_1 | refine J7.far ?_ NB334_331.out _ | refine J7.far ?_ NB334_342.out _ | refine J7.far ?_ NB334_373.out _) | exact HI334.out)); (case side2 => repeat (first | (with_reducible first | exact HB.out | apply bA_ | apply bN_ | apply bD_ | refine bS_ ?_ (J7.ge HI334.out) | refine bS_ ?_ GE331.out | refine bS_ ?_ GE342.out | refine bS_ ?_ GE373.out) | exact HB.out)); rintro e w135 ⟨rfl, hi, hb, hk⟩; refine ⟨_, rfl, ?_⟩; have n0_ := Aside0.mk (KeepBut.blk hk (g' := gb331) (o := .cells #[.int .i64 0, .int .i64 0, .int .i64 0, .string (⟨#[]⟩ : ByteArray), .string (⟨#[]⟩ : ByteArray), .string (⟨#[]⟩ : ByteArray), .int .i64 0, .string (⟨#[]⟩ : ByteArray), .int .i64 0, .int .i64 0, .int .i64 0, .bool false, .string (⟨#[]⟩ : ByteArray)] 27 (0, 0)) (by (with_reducible repeat (first | refine kN_ ?_ _ | refine kD_ ?_ | refine kA_ ?_ _)); refine kF_ ?_ NB331_342.out _; (with_reducible repeat (first | refine kN_ ?_ _ | refine kD_ ?_ | refine kA_ ?_ _)); refine kF_ ?_ NB331_342.out _; (with_reducible repeat (first | refine kN_ ?_ _ | refine kD_ ?_ | refine kA_ ?_ _)); refine kF_ ?_ NB331_342.out _; (with_reducible repeat (first | refine kN_ ?_ _ | refine kD_ ?_ | refine kA_ ?_ _)); refine kF_ ?_ NB331_342.out _; (with_reducible repeat (first | refine kN_ ?_ _ | refine kD_ ?_ | refine kA_ ?_ _)); refine kF_ ?_ NB331_342.out _; (with_reducible repeat (first | refine kN_ ?_ _ | refine kD_ ?_ | refine kA_ ?_ _)); refine kF_ ?_ NB331_373.out _; (with_reducible repeat (first | refine kN_ ?_ _ | refine kD_ ?_ | refine kA_ ?_ _)); refine kF_ ?_ NB331_373.out _; (with_reducible repeat (first | refine kN_ ?_ _ | refine kD_ ?_ | refine kA_ ?_ _)); refine kF_ ?_ NB331_373.out _; (with_reducible repeat (first | refine kN_ ?_ _ | refine kD_ ?_ | refine kA_ ?_ _)); refine kF_ ?_ NB331_373.out _; (with_reducible repeat (first | refine kN_ ?_ _ | refine kD_ ?_ | refine kA_ ?_ _)); refine kF_ ?_ NB331_373.out _; (with_reducible repeat (first | refine kN_ ?_ _ | refine kD_ ?_ | refine kA_ ?_ _)); exact BK331.out) NB331_334.out (by simp)); have n1_ := Aside0.mk (KeepBut.blk hk (g' := gb342) (o := .cells #[.int .i64 t336, .int .i64 t339, .int .i64 t343, .string t367, .string t368, .string t369, .int .i64 t370, .string t371, .int .i64 t346, .int .i64 t349, .int .i64 t352, .bool (t355 == 1), .string t358] 27 (0, 0)) (by (with_reducible repeat (first | refine kN_ ?_ _ | refine kD_ ?_ | refine kA_ ?_ _)); refine blk_p13_3_7 (show _ = some (Obj.cells #[.int .i64 t336, .int .i64 t339, .int .i64 t343, .string (⟨#[]⟩ : ByteArray), .string (⟨#[]⟩ : ByteArray), .string (⟨#[]⟩ : ByteArray), .int .i64 0, .string (⟨#[]⟩ : ByteArray), .int .i64 t346, .int .i64 t349, .int .i64 t352, .bool (t355 == 1), .string t358] _ (0, 0)) from ?_); (with_reducible repeat (first | refine kN_ ?_ _ | refine kD_ ?_ | refine kA_ ?_ _)); refine kF_ ?_ NB342_373.out _; (with_reducible repeat (first | refine kN_ ?_ _ | refine kD_ ?_ | refine kA_ ?_ _)); refine kF_ ?_ NB342_373.out _; (with_reducible repeat (first | refine kN_ ?_ _ | refine kD_ ?_ | refine kA_ ?_ _)); refine kF_ ?_ NB342_373.out _; (with_reducible repeat (first | refine kN_ ?_ _ | refine kD_ ?_ | refine kA_ ?_ _)); refine kF_ ?_ NB342_373.out _; (with_reducible repeat (first | refine kN_ ?_ _ | refine kD_ ?_ | refine kA_ ?_ _)); refine kF_ ?_ NB342_373.out _; (with_reducible repeat (first | refine kN_ ?_ _ | refine kD_ ?_ | refine kA_ ?_ _)); exact BK342.out) NB342_334.out (by simp)); have n2_ := Aside0.mk (KeepBut.blk hk (g' := gb373) (o := .cells #[.string t367, .string t368, .string t369, .int .i64 t370, .string t371] 23 (0, 0)) (by (with_reducible repeat (first | refine kN_ ?_ _ | refine kD_ ?_ | refine kA_ ?_ _)); refine kF_ ?_ NB373_342.out _; (with_reducible repeat (first | refine kN_ ?_ _ | refine kD_ ?_ | refine kA_ ?_ _)); refine kF_ ?_ NB373_342.out _; (with_reducible repeat (first | refine kN_ ?_ _ | refine kD_ ?_ | refine kA_ ?_ _)); refine kF_ ?_ NB373_342.out _; (with_reducible repeat (first | refine kN_ ?_ _ | refine kD_ ?_ | refine kA_ ?_ _)); refine kF_ ?_ NB373_342.out _; (with_reducible repeat (first | refine kN_ ?_ _ | refine kD_ ?_ | refine kA_ ?_ _)); refine kF_ ?_ NB373_342.out _; (with_reducible repeat (first | refine kN_ ?_ _ | refine kD_ ?_ | refine kA_ ?_ _)); refine blk_p5_0_4 (show _ = some (Obj.cells #[.string (⟨#[]⟩ : ByteArray), .string (⟨#[]⟩ : ByteArray), .string (⟨#[]⟩ : ByteArray), .int .i64 0, .string (⟨#[]⟩ : ByteArray)] _ (0, 0)) from ?_); (with_reducible repeat (first | refine kN_ ?_ _ | refine kD_ ?_ | refine kA_ ?_ _)); exact BK373.out) NB373_334.out (by simp)); have n3_ := Aside0.mk (hb); have n4_ := Aside0.mk (hi); clear BK331; clear BK342; clear BK373; clear HB; clear HI334; have BK331 := n0_; have BK342 := n1_; have BK373 := n2_; have HB := n3_; have HI334 := n4_; clear n0_ n1_ n2_ n3_ n4_; (try clear hb); (try clear hb2); (try clear hk); (try clear hi); have hnb136 := NB331_334.out; have hnc136 := NB334_331.out; obtain ⟨_,_,_,_,_,_,_,_,_,_,_,_,_⟩ := cell13 BK331.out; obtain ⟨_,_,_,_,_,_,_,_,_,_,_,_,_⟩ := froz13 BK331.out))
    refine bodyPost_ret (results_ct rfl _ _ gb331 27 #[.int .i64 0, .int .i64 0, .int .i64 0, .string (⟨#[]⟩ : ByteArray), .string (⟨#[]⟩ : ByteArray), .string (⟨#[]⟩ : ByteArray), .int .i64 0, .string (⟨#[]⟩ : ByteArray), .int .i64 0, .int .i64 0, .int .i64 0, .bool false, .string (⟨#[]⟩ : ByteArray)] (0, 0) _ rfl (by (with_reducible repeat (first | refine kN_ ?_ _ | refine kD_ ?_ | refine kA_ ?_ _)); refine blk_p13_0_12 (show _ = some (Obj.cells #[.int .i64 0, .int .i64 0, .int .i64 0, .string (⟨#[]⟩ : ByteArray), .string (⟨#[]⟩ : ByteArray), .string (⟨#[]⟩ : ByteArray), .int .i64 0, .string (⟨#[]⟩ : ByteArray), .int .i64 0, .int .i64 0, .int .i64 0, .bool false, .string (⟨#[]⟩ : ByteArray)] _ (0, 0)) from ?_); (with_reducible repeat (first | refine kN_ ?_ _ | refine kD_ ?_ | refine kA_ ?_ _)); exact BK331.out) Tryd.underlying27 rfl (by kernel_rfl)) rfl ?_
    exact ⟨by first | rfl | (simp [errW_none, errW_some] <;> rfl) | (simp [*, errW_none, errW_some] <;> rfl), by repeat (first | (with_reducible first | exact HB.out | apply bA_ | apply bN_ | apply bD_ | refine bS_ ?_ (J7.ge HI334.out) | refine bS_ ?_ GE331.out | refine bS_ ?_ GE342.out | refine bS_ ?_ GE373.out) | exact HB.out)⟩
  ·rw [if_neg c16] at H
   have c16b0 : (t374 == 0) = false := beq_eq_false_iff_ne.mpr c16
   have c16b1 : (t374 != 0) = true := bne_iff_ne.mpr c16
   simp only [Option.some.injEq, Prod.mk.injEq] at H
   obtain ⟨rfl, rfl, rfl, rfl, rfl, rfl, rfl, rfl, rfl, rfl, rfl, rfl, rfl, rfl⟩ := H
   go_wp2_with (first | ((with_reducible refine gC_ (f := 39) rfl ?_); refine goesL_ (some 55) rfl rfl Tryd.func39 (by kernel_rfl) rfl #[.pointer (some ⟨g334, 0, none⟩)] rfl (by (try simp only [List.map_toArray, List.map_cons, List.map_nil]); first | done | rfl | (simp only [List.length_drop, List.length_take]; rfl)) ?_; (with_reducible refine (oR_Done.calls g334 t365 t366 t374 t375 t376 w _ ?side1 ?side2 A15.out).mono ?_); (case side1 => repeat (first | (with_reducible first | exact HI334.out | apply J7.alloc | apply J7.drewN | apply J7.drew | apply J7.set_0 | apply J7.set_1 | refine J7.far ?_ NB334_331.out _ | refine J7.far ?_ NB334_342.out _ | refine J7.far ?_ NB334_373.out _) | exact HI334.out)); (case side2 => repeat (first | (with_reducible first | exact HB.out | apply bA_ | apply bN_ | apply bD_ | refine bS_ ?_ (J7.ge HI334.out) | refine bS_ ?_ GE331.out | refine bS_ ?_ GE342.out | refine bS_ ?_ GE373.out) | exact HB.out)); rintro e w163 ⟨rfl, hi, hb, hk⟩; refine ⟨_, rfl, ?_⟩; have n0_ := Aside0.mk (KeepBut.blk hk (g' := gb331) (o := .cells #[.int .i64 0, .int .i64 0, .int .i64 0, .string (⟨#[]⟩ : ByteArray), .string (⟨#[]⟩ : ByteArray), .string (⟨#[]⟩ : ByteArray), .int .i64 0, .string (⟨#[]⟩ : ByteArray), .int .i64 0, .int .i64 0, .int .i64 0, .bool false, .string (⟨#[]⟩ : ByteArray)] 27 (0, 0)) (by (with_reducible repeat (first | refine kN_ ?_ _ | refine kD_ ?_ | refine kA_ ?_ _)); refine kF_ ?_ NB331_342.out _; (with_reducible repeat (first | refine kN_ ?_ _ | refine kD_ ?_ | refine kA_ ?_ _)); refine kF_ ?_ NB331_342.out _; (with_reducible repeat (first | refine kN_ ?_ _ | refine kD_ ?_ | refine kA_ ?_ _)); refine kF_ ?_ NB331_342.out _; (with_reducible repeat (first | refine kN_ ?_ _ | refine kD_ ?_ | refine kA_ ?_ _)); refine kF_ ?_ NB331_342.out _; (with_reducible repeat (first | refine kN_ ?_ _ | refine kD_ ?_ | refine kA_ ?_ _)); refine kF_ ?_ NB331_342.out _; (with_reducible repeat (first | refine kN_ ?_ _ | refine kD_ ?_ | refine kA_ ?_ _)); refine kF_ ?_ NB331_373.out _; (with_reducible repeat (first | refine kN_ ?_ _ | refine kD_ ?_ | refine kA_ ?_ _)); refine kF_ ?_ NB331_373.out _; (with_reducible repeat (first | refine kN_ ?_ _ | refine kD_ ?_ | refine kA_ ?_ _)); refine kF_ ?_ NB331_373.out _; (with_reducible repeat (first | refine kN_ ?_ _ | refine kD_ ?_ | refine kA_ ?_ _)); refine kF_ ?_ NB331_373.out _; (with_reducible repeat (first | refine kN_ ?_ _ | refine kD_ ?_ | refine kA_ ?_ _)); refine kF_ ?_ NB331_373.out _; (with_reducible repeat (first | refine kN_ ?_ _ | refine kD_ ?_ | refine kA_ ?_ _)); exact BK331.out) NB331_334.out (by simp)); have n1_ := Aside0.mk (KeepBut.blk hk (g' := gb342) (o := .cells #[.int .i64 t336, .int .i64 t339, .int .i64 t343, .string t367, .string t368, .string t369, .int .i64 t370, .string t371, .int .i64 t346, .int .i64 t349, .int .i64 t352, .bool (t355 == 1), .string t358] 27 (0, 0)) (by (with_reducible repeat (first | refine kN_ ?_ _ | refine kD_ ?_ | refine kA_ ?_ _)); refine blk_p13_3_7 (show _ = some (Obj.cells #[.int .i64 t336, .int .i64 t339, .int .i64 t343, .string (⟨#[]⟩ : ByteArray), .string (⟨#[]⟩ : ByteArray), .string (⟨#[]⟩ : ByteArray), .int .i64 0, .string (⟨#[]⟩ : ByteArray), .int .i64 t346, .int .i64 t349, .int .i64 t352, .bool (t355 == 1), .string t358] _ (0, 0)) from ?_); (with_reducible repeat (first | refine kN_ ?_ _ | refine kD_ ?_ | refine kA_ ?_ _)); refine kF_ ?_ NB342_373.out _; (with_reducible repeat (first | refine kN_ ?_ _ | refine kD_ ?_ | refine kA_ ?_ _)); refine kF_ ?_ NB342_373.out _; (with_reducible repeat (first | refine kN_ ?_ _ | refine kD_ ?_ | refine kA_ ?_ _)); refine kF_ ?_ NB342_373.out _; (with_reducible repeat (first | refine kN_ ?_ _ | refine kD_ ?_ | refine kA_ ?_ _)); refine kF_ ?_ NB342_373.out _; (with_reducible repeat (first | refine kN_ ?_ _ | refine kD_ ?_ | refine kA_ ?_ _)); refine kF_ ?_ NB342_373.out _; (with_reducible repeat (first | refine kN_ ?_ _ | refine kD_ ?_ | refine kA_ ?_ _)); exact BK342.out) NB342_334.out (by simp)); have n2_ := Aside0.mk (KeepBut.blk hk (g' := gb373) (o := .cells #[.string t367, .string t368, .string t369, .int .i64 t370, .string t371] 23 (0, 0)) (by (with_reducible repeat (first | refine kN_ ?_ _ | refine kD_ ?_ | refine kA_ ?_ _)); refine kF_ ?_ NB373_342.out _; (with_reducible repeat (first | refine kN_ ?_ _ | refine kD_ ?_ | refine kA_ ?_ _)); refine kF_ ?_ NB373_342.out _; (with_reducible repeat (first | refine kN_ ?_ _ | refine kD_ ?_ | refine kA_ ?_ _)); refine kF_ ?_ NB373_342.out _; (with_reducible repeat (first | refine kN_ ?_ _ | refine kD_ ?_ | refine kA_ ?_ _)); refine kF_ ?_ NB373_342.out _; (with_reducible repeat (first | refine kN_ ?_ _ | refine kD_ ?_ | refine kA_ ?_ _)); refine kF_ ?_ NB373_342.out _; (with_reducible repeat (first | refine kN_ ?_ _ | refine kD_ ?_ | refine kA_ ?_ _)); refine blk_p5_0_4 (show _ = some (Obj.cells #[.string (⟨#[]⟩ : ByteArray), .string (⟨#[]⟩ : ByteArray), .string (⟨#[]⟩ : ByteArray), .int .i64 0, .string (⟨#[]⟩ : ByteArray)] _ (0, 0)) from ?_); (with_reducible repeat (first | refine kN_ ?_ _ | refine kD_ ?_ | refine kA_ ?_ _)); exact BK373.out) NB373_334.out (by simp)); have n3_ := Aside0.mk (hb); have n4_ := Aside0.mk (hi); clear BK331; clear BK342; clear BK373; clear HB; clear HI334; have BK331 := n0_; have BK342 := n1_; have BK373 := n2_; have HB := n3_; have HI334 := n4_; clear n0_ n1_ n2_ n3_ n4_; (try clear hb); (try clear hb2); (try clear hk); (try clear hi); have hnb164 := NB331_334.out; have hnc164 := NB334_331.out; obtain ⟨_,_,_,_,_,_,_,_,_,_,_,_,_⟩ := cell13 BK331.out; obtain ⟨_,_,_,_,_,_,_,_,_,_,_,_,_⟩ := froz13 BK331.out))
   refine bodyPost_ret (results_ct rfl _ _ gb331 27 #[.int .i64 0, .int .i64 0, .int .i64 0, .string (⟨#[]⟩ : ByteArray), .string (⟨#[]⟩ : ByteArray), .string (⟨#[]⟩ : ByteArray), .int .i64 0, .string (⟨#[]⟩ : ByteArray), .int .i64 0, .int .i64 0, .int .i64 0, .bool false, .string (⟨#[]⟩ : ByteArray)] (0, 0) _ rfl (by (with_reducible repeat (first | refine kN_ ?_ _ | refine kD_ ?_ | refine kA_ ?_ _)); refine blk_p13_0_12 (show _ = some (Obj.cells #[.int .i64 0, .int .i64 0, .int .i64 0, .string (⟨#[]⟩ : ByteArray), .string (⟨#[]⟩ : ByteArray), .string (⟨#[]⟩ : ByteArray), .int .i64 0, .string (⟨#[]⟩ : ByteArray), .int .i64 0, .int .i64 0, .int .i64 0, .bool false, .string (⟨#[]⟩ : ByteArray)] _ (0, 0)) from ?_); (with_reducible repeat (first | refine kN_ ?_ _ | refine kD_ ?_ | refine kA_ ?_ _)); exact BK331.out) Tryd.underlying27 rfl (by kernel_rfl)) rfl ?_
   exact ⟨by first | rfl | (simp [errW_none, errW_some] <;> rfl) | (simp [*, errW_none, errW_some] <;> rfl), by repeat (first | (with_reducible first | exact HB.out | apply bA_ | apply bN_ | apply bD_ | refine bS_ ?_ (J7.ge HI334.out) | refine bS_ ?_ GE331.out | refine bS_ ?_ GE342.out | refine bS_ ?_ GE373.out) | exact HB.out)⟩
 ·replace c3 := Bool.eq_false_iff.mpr c3
  subst c3
  have H1 : (some (0, 0, 0, (⟨#[]⟩ : ByteArray), (⟨#[]⟩ : ByteArray), (⟨#[]⟩ : ByteArray), 0, (⟨#[]⟩ : ByteArray), 0, 0, 0, false, (⟨#[]⟩ : ByteArray), 230)) = some (r1, r2, r3, r4, r5, r6, r7, r8, r9, r10, r11, r12, r13, r14) := by rw [if_neg (show ¬ (false = true) by decide)] at H; exact H
  clear H
  have H := H1
  clear H1
  simp only [Option.some.injEq, Prod.mk.injEq] at H
  obtain ⟨rfl, rfl, rfl, rfl, rfl, rfl, rfl, rfl, rfl, rfl, rfl, rfl, rfl, rfl⟩ := H
  go_enter Tryd.func17, Tryd.ntmps17
  go_wp2_with (first | ((with_reducible refine gD_ (N := 2) rfl ?_); refine gB_ ?hg (N := 2) ?hd (cs := #[.int .i64 0, .int .i64 0, .int .i64 0, .string (⟨#[]⟩ : ByteArray), .string (⟨#[]⟩ : ByteArray), .string (⟨#[]⟩ : ByteArray), .int .i64 0, .string (⟨#[]⟩ : ByteArray), .int .i64 0, .int .i64 0, .int .i64 0, .bool false, .string (⟨#[]⟩ : ByteArray)]) (t := 27) ?hr ?_; (case hd => rfl); (case hg => rfl); (case hr => first | (go_simp; done) | (go_simp; rfl)); intro gb331 hg w166 hbox hb; have n0_ := Aside0.mk (bT_ (by repeat (first | (with_reducible first | exact HB.out | apply bA_ | apply bN_ | apply bD_) | exact HB.out)) hb); have n1_ := Aside0.mk (hbox); have n2_ := Aside0.mk ((by rw [hg]; exact (bZ_ (by repeat (first | (with_reducible first | exact HB.out | apply bA_ | apply bN_ | apply bD_) | exact HB.out))) : w.heap.size ≤ gb331)); have n3_ := Aside0.mk ((by rw [hg]; exact (bZ_ (by repeat (first | (with_reducible first | exact HB.out | apply bA_ | apply bN_ | apply bD_) | exact HB.out))) : w.heap.size ≤ gb331)); clear HB; have HB := n0_; have BK331 := n1_; have GW331 := n2_; have GE331 := n3_; clear n0_ n1_ n2_ n3_; clear hb hbox hg) | ((with_reducible refine gC_ (f := 32) rfl ?_); refine goesL_ (some 12) rfl rfl Tryd.func32 (by kernel_rfl) rfl #[.string a0, .string (⟨#[71]⟩ : ByteArray)] rfl (by (try simp only [List.map_toArray, List.map_cons, List.map_nil]); first | done | rfl | (simp only [List.length_drop, List.length_take]; rfl)) ?_; (with_reducible refine (ticket_open.calls_not a0 (⟨#[71]⟩ : ByteArray) t332 t333 _ ⟨TabW.now HT.out (by repeat (first | (with_reducible first | exact HB.out | apply bA_ | apply bN_ | apply bD_ | refine bS_ ?_ GE331.out) | exact HB.out))⟩ A2.out).mono ?_); rintro e w167 ⟨rfl, hb2⟩; refine ⟨_, rfl, ?_⟩; have hb := bT_ (by repeat (first | (with_reducible first | exact HB.out | apply bA_ | apply bN_ | apply bD_ | refine bS_ ?_ GE331.out) | exact HB.out)) hb2; have n0_ := Aside0.mk (kB_ (g := gb331) (o := .cells #[.int .i64 0, .int .i64 0, .int .i64 0, .string (⟨#[]⟩ : ByteArray), .string (⟨#[]⟩ : ByteArray), .string (⟨#[]⟩ : ByteArray), .int .i64 0, .string (⟨#[]⟩ : ByteArray), .int .i64 0, .int .i64 0, .int .i64 0, .bool false, .string (⟨#[]⟩ : ByteArray)] 27 (0, 0)) (by (with_reducible repeat (first | refine kN_ ?_ _ | refine kD_ ?_ | refine kA_ ?_ _)); exact BK331.out) hb2); have n1_ := Aside0.mk (hb); clear BK331; clear HB; have BK331 := n0_; have HB := n1_; clear n0_ n1_; (try clear hb); (try clear hb2); (try clear hk); (try clear hi); obtain ⟨_,_,_,_,_,_,_,_,_,_,_,_,_⟩ := cell13 BK331.out; obtain ⟨_,_,_,_,_,_,_,_,_,_,_,_,_⟩ := froz13 BK331.out))
  refine bodyPost_ret (results_ct rfl _ _ gb331 27 #[.int .i64 0, .int .i64 0, .int .i64 0, .string (⟨#[]⟩ : ByteArray), .string (⟨#[]⟩ : ByteArray), .string (⟨#[]⟩ : ByteArray), .int .i64 0, .string (⟨#[]⟩ : ByteArray), .int .i64 0, .int .i64 0, .int .i64 0, .bool false, .string (⟨#[]⟩ : ByteArray)] (0, 0) _ rfl (by (with_reducible repeat (first | refine kN_ ?_ _ | refine kD_ ?_ | refine kA_ ?_ _)); refine blk_p13_0_12 (show _ = some (Obj.cells #[.int .i64 0, .int .i64 0, .int .i64 0, .string (⟨#[]⟩ : ByteArray), .string (⟨#[]⟩ : ByteArray), .string (⟨#[]⟩ : ByteArray), .int .i64 0, .string (⟨#[]⟩ : ByteArray), .int .i64 0, .int .i64 0, .int .i64 0, .bool false, .string (⟨#[]⟩ : ByteArray)] _ (0, 0)) from ?_); (with_reducible repeat (first | refine kN_ ?_ _ | refine kD_ ?_ | refine kA_ ?_ _)); exact BK331.out) Tryd.underlying27 rfl (by kernel_rfl)) rfl ?_
  exact ⟨by first | rfl | (simp [errW_none, errW_some] <;> rfl) | (simp [*, errW_none, errW_some] <;> rfl), by repeat (first | (with_reducible first | exact HB.out | apply bA_ | apply bN_ | apply bD_ | refine bS_ ?_ GE331.out) | exact HB.out)⟩
end Go.Proofs.YtipenplplmdclaaDoor.Px
end
section
namespace Go.Proofs.YtipenplplmdclaaDoor.Px
open Go.RowKit Go.Proofs.YtipenplplmdclaaDoorW.PrintWords Go.Proofs.YtipenplplmdclaaDoorW.PrintLast Go.Proofs.YtipenplplmdclaaDoorW.PrintMore
attribute [local go_sem] max2_int min2_int max_two min_two max_three min_three max_four min_four
set_option linter.unusedVariables false
set_option linter.unusedSimpArgs false
theorem eqA23 (d : Nat) (w : World) (x0 y0 : ByteArray) (x1 y1 : ByteArray) (x2 y2 : ByteArray) (x3 y3 : Int) (x4 y4 : ByteArray) :
    (Op.equalIn (d + 2) 23 (.agg #[.string x0, .string x1, .string x2, .int .i64 x3, .string x4]) (.agg #[.string y0, .string y1, .string y2, .int .i64 y3, .string y4])).run Tryd.prog w = .ok (x0.toList == y0.toList && (x1.toList == y1.toList && (x2.toList == y2.toList && (x3 == y3 && (x4.toList == y4.toList))))) w := by
  refine eqA_of Tryd.underlying23 (by kernel_rfl) ?_
  refine eqf_cons (by rfl) (by go_simp; rfl) (by go_simp; rfl) (by go_simp) ?_
  refine eqf_cons (by rfl) (by go_simp; rfl) (by go_simp; rfl) (by go_simp) ?_
  refine eqf_cons (by rfl) (by go_simp; rfl) (by go_simp; rfl) (by go_simp) ?_
  refine eqf_cons (by rfl) (by go_simp; rfl) (by go_simp; rfl) (by go_simp) ?_
  exact eqf_last (by rfl) (by go_simp; rfl) (by go_simp; rfl) (by go_simp)
theorem eqA25 (d : Nat) (w : World) (x0 y0 : Int) (x1 y1 : ByteArray) (x2 y2 : ByteArray) (x3 y3 : ByteArray) (x4 y4 : Int) (x5 y5 : ByteArray) (x6 y6 : Int) (x7 y7 : Int) (x8 y8 : Int) (x9 y9 : Bool) (x10 y10 : ByteArray) :
    (Op.equalIn (d + 3) 25 (.agg #[.int .i64 x0, .string x1, .string x2, .string x3, .int .i64 x4, .string x5, .int .i64 x6, .int .i64 x7, .int .i64 x8, .bool x9, .string x10]) (.agg #[.int .i64 y0, .string y1, .string y2, .string y3, .int .i64 y4, .string y5, .int .i64 y6, .int .i64 y7, .int .i64 y8, .bool y9, .string y10])).run Tryd.prog w = .ok (x0 == y0 && ((x1.toList == y1.toList && (x2.toList == y2.toList && (x3.toList == y3.toList && (x4 == y4 && (x5.toList == y5.toList))))) && (x6 == y6 && (x7 == y7 && (x8 == y8 && (x9 == y9 && (x10.toList == y10.toList))))))) w := by
  refine eqA_of Tryd.underlying25 (by kernel_rfl) ?_
  refine eqf_cons (by rfl) (by go_simp; rfl) (by go_simp; rfl) (by go_simp) ?_
  refine eqf_cons (by rfl) (by go_simp) (by go_simp) (eqA23 (d + 0) w _ _ _ _ _ _ _ _ _ _) ?_
  refine eqf_cons (by rfl) (by go_simp; rfl) (by go_simp; rfl) (by go_simp) ?_
  refine eqf_cons (by rfl) (by go_simp; rfl) (by go_simp; rfl) (by go_simp) ?_
  refine eqf_cons (by rfl) (by go_simp; rfl) (by go_simp; rfl) (by go_simp) ?_
  refine eqf_cons (by rfl) (by go_simp; rfl) (by go_simp; rfl) (by go_simp) ?_
  exact eqf_last (by rfl) (by go_simp; rfl) (by go_simp; rfl) (by go_simp)
end Go.Proofs.YtipenplplmdclaaDoor.Px
end
section
namespace Go.Proofs.YtipenplplmdclaaDoor.Px
open Go.RowKit Go.Proofs.YtipenplplmdclaaDoorW.PrintWords Go.Proofs.YtipenplplmdclaaDoorW.PrintLast Go.Proofs.YtipenplplmdclaaDoorW.PrintMore
attribute [local go_sem] max2_int min2_int max_two min_two max_three min_three max_four min_four
set_option linter.unusedVariables false
set_option linter.unusedSimpArgs false
theorem eqA27 (d : Nat) (w : World) (x0 y0 : Int) (x1 y1 : Int) (x2 y2 : Int) (x3 y3 : ByteArray) (x4 y4 : ByteArray) (x5 y5 : ByteArray) (x6 y6 : Int) (x7 y7 : ByteArray) (x8 y8 : Int) (x9 y9 : Int) (x10 y10 : Int) (x11 y11 : Bool) (x12 y12 : ByteArray) :
    (Op.equalIn (d + 4) 27 (.agg #[.int .i64 x0, .int .i64 x1, .int .i64 x2, .string x3, .string x4, .string x5, .int .i64 x6, .string x7, .int .i64 x8, .int .i64 x9, .int .i64 x10, .bool x11, .string x12]) (.agg #[.int .i64 y0, .int .i64 y1, .int .i64 y2, .string y3, .string y4, .string y5, .int .i64 y6, .string y7, .int .i64 y8, .int .i64 y9, .int .i64 y10, .bool y11, .string y12])).run Tryd.prog w = .ok (x0 == y0 && (x1 == y1 && ((x2 == y2 && ((x3.toList == y3.toList && (x4.toList == y4.toList && (x5.toList == y5.toList && (x6 == y6 && (x7.toList == y7.toList))))) && (x8 == y8 && (x9 == y9 && (x10 == y10 && (x11 == y11 && (x12.toList == y12.toList)))))))))) w := by
  refine eqA_of Tryd.underlying27 (by kernel_rfl) ?_
  refine eqf_cons (by rfl) (by go_simp; rfl) (by go_simp; rfl) (by go_simp) ?_
  refine eqf_cons (by rfl) (by go_simp; rfl) (by go_simp; rfl) (by go_simp) ?_
  exact eqf_last (by rfl) (by go_simp) (by go_simp) (eqA25 (d + 0) w _ _ _ _ _ _ _ _ _ _ _ _ _ _ _ _ _ _ _ _ _ _)
end Go.Proofs.YtipenplplmdclaaDoor.Px
end
section
namespace Go.Proofs.YtipenplplmdclaaDoor.Px
open Go.RowKit Go.Proofs.YtipenplplmdclaaDoorW.PrintWords Go.Proofs.YtipenplplmdclaaDoorW.PrintLast Go.Proofs.YtipenplplmdclaaDoorW.PrintMore
attribute [local go_sem] max2_int min2_int max_two min_two max_three min_three max_four min_four
set_option linter.unusedVariables false
set_option linter.unusedSimpArgs false
def J6 (w0 W : World) (g : Nat) (f0 : ByteArray) (f1 : Int) (f2 : Int) : Prop := W.heap[g]? = some (.cells #[.string f0, .int .i64 f1, .int .i64 f2] 66 (0, 0)) ∧ w0.heap.size ≤ g
theorem J6.grown {w0 W : World} {g : Nat} {f0 : ByteArray} {f1 : Int} {f2 : Int} {W1 : World} {row : Option Nat} (h : J6 w0 W g f0 f1 f2) (hw : W.grownBy W1 row) (hne : some g ≠ row) : J6 w0 W1 g f0 f1 f2 := by
  obtain ⟨hb, hg⟩ := h
  exact ⟨blk_grown hb hw hne, hg⟩
theorem J6.kept {w0 W : World} {g : Nat} {f0 : ByteArray} {f1 : Int} {f2 : Int} {W1 : World} {S : Nat → Prop} (h : J6 w0 W g f0 f1 f2) (hk : Kept W W1 S) (hne : ¬ S g) : J6 w0 W1 g f0 f1 f2 := by
  obtain ⟨hb, hg⟩ := h
  exact ⟨blk_kept hb hk hne, hg⟩
theorem J6.below {w0 W : World} {g : Nat} {f0 : ByteArray} {f1 : Int} {f2 : Int} {W1 : World} (h : J6 w0 W g f0 f1 f2) (hw : Below W.heap.size W W1) : J6 w0 W1 g f0 f1 f2 := h.grown (grown_of_below hw none) (by simp)
theorem J6.alloc {w0 W : World} {g : Nat} {f0 : ByteArray} {f1 : Int} {f2 : Int} (h : J6 w0 W g f0 f1 f2) (o : Obj) : J6 w0 (W.alloc o) g f0 f1 f2 := h.below (bA_ (Below.refl _ _) o)
theorem J6.drewN {w0 W : World} {g : Nat} {f0 : ByteArray} {f1 : Int} {f2 : Int} (h : J6 w0 W g f0 f1 f2) (m : Nat) : J6 w0 (W.drewN m) g f0 f1 f2 := h
theorem J6.drew {w0 W : World} {g : Nat} {f0 : ByteArray} {f1 : Int} {f2 : Int} (h : J6 w0 W g f0 f1 f2) : J6 w0 W.drew g f0 f1 f2 := h
theorem J6.at_ {w0 W : World} {g : Nat} {f0 : ByteArray} {f1 : Int} {f2 : Int} {w' : World} {m : Nat} (hq : W.drewN m = w') (h : J6 w0 W g f0 f1 f2) : J6 w0 w' g f0 f1 f2 := by subst hq; exact J6.drewN h m
theorem J6.apart {w0 W : World} {g : Nat} {f0 : ByteArray} {f1 : Int} {f2 : Int} {α : Type} {d : Kd α} {e : Nat} {base : Nat} {ok : Nat → Prop} {v : Value} {xs : List α} (h : J6 w0 W g f0 f1 f2) (ho : d.R e W base ok v xs) (ht : ∀ q, q ∈ e :: d.E → q ≠ 66) : d.R e W base (fun k => ok k ∧ k ≠ g) v xs := by
  obtain ⟨hb, hg⟩ := h
  exact Kd.R_types ho hb ht
theorem J6.own_ne {w0 W : World} {g : Nat} {f0 : ByteArray} {f1 : Int} {f2 : Int} {α : Type} {d : Kd α} {e : Nat} {base : Nat} {ok : Nat → Prop} {v : Value} {xs : List α} (h : J6 w0 W g f0 f1 f2) (ho : d.R e W base ok v xs) (ht : e ≠ 66) : some g ≠ v.ownBlock := by
  obtain ⟨hb, hg⟩ := h
  exact Kd.R_ne ho hb ht
theorem J6.lt {w0 W : World} {g : Nat} {f0 : ByteArray} {f1 : Int} {f2 : Int} (h : J6 w0 W g f0 f1 f2) : g < W.heap.size := by
  obtain ⟨hb, hg⟩ := h
  exact blk_lt hb
theorem J6.ge {w0 W : World} {g : Nat} {f0 : ByteArray} {f1 : Int} {f2 : Int} (h : J6 w0 W g f0 f1 f2) : w0.heap.size ≤ g := by
  obtain ⟨hb, hg⟩ := h
  exact hg
theorem J6.ne_blk {w0 W : World} {g : Nat} {f0 : ByteArray} {f1 : Int} {f2 : Int} {a : Nat} {cs : Array Value} {t : TypeId} {fr : Nat × Nat} (h : J6 w0 W g f0 f1 f2) (hb2 : W.heap[a]? = some (.cells cs t fr)) (ht : t ≠ 66) : g ≠ a := by
  obtain ⟨hb, hg⟩ := h
  rintro rfl
  rw [hb] at hb2
  injection hb2 with hb2
  injection hb2 with _ ht2
  exact ht ht2.symm
theorem J6.far {w0 W : World} {g : Nat} {f0 : ByteArray} {f1 : Int} {f2 : Int} {p : Addr} (h : J6 w0 W g f0 f1 f2) (hne : g ≠ p.block) (u : Value) : J6 w0 (W.setCell p u) g f0 f1 f2 := by
  obtain ⟨hb, hg⟩ := h
  exact ⟨kF_ hb hne u, hg⟩
theorem J6.set_0 {w0 W : World} {g : Nat} {f0 : ByteArray} {f1 : Int} {f2 : Int} (h : J6 w0 W g f0 f1 f2) (x : ByteArray) : J6 w0 (W.setCell ⟨g, 0, none⟩ (.string x)) g x f1 f2 := by
  obtain ⟨hb, hg⟩ := h
  exact ⟨by simpa using blk_set hb 0 (.string x), hg⟩
theorem J6.set_1 {w0 W : World} {g : Nat} {f0 : ByteArray} {f1 : Int} {f2 : Int} (h : J6 w0 W g f0 f1 f2) (x : Int) : J6 w0 (W.setCell ⟨g, 1, none⟩ (.int .i64 x)) g f0 x f2 := by
  obtain ⟨hb, hg⟩ := h
  exact ⟨by simpa using blk_set hb 1 (.int .i64 x), hg⟩
end Go.Proofs.YtipenplplmdclaaDoor.Px
end
section
namespace Go.Proofs.YtipenplplmdclaaDoor.Px
open Go.RowKit Go.Proofs.YtipenplplmdclaaDoorW.PrintWords Go.Proofs.YtipenplplmdclaaDoorW.PrintLast Go.Proofs.YtipenplplmdclaaDoorW.PrintMore
attribute [local go_sem] max2_int min2_int max_two min_two max_three min_three max_four min_four
set_option linter.unusedVariables false
set_option linter.unusedSimpArgs false
attribute [local go_sem high] eqA27
def gongbook_Below.f (a0 : Int) (a1 : Int) : Option (Int) := if a1 = 0 then (none) else (some (Int.tmod (wrap64 ((Int.tmod a0 a1) + a1)) a1))
set_option maxHeartbeats 8000000 in
set_option maxRecDepth 100000 in
theorem gongbook_Below.calls (a0 : Int) (a1 : Int) (r : Int) (w : World) (h : gongbook_Below.f a0 a1 = some r) :
  Calls Tryd.prog 21 #[.int .i64 a0, .int .i64 a1] w fun e w' => e = .returned (.int .i64 r) ∧ Drawn0 w w' := by
 have H : (if a1 = 0 then (none) else (some (Int.tmod (wrap64 ((Int.tmod a0 a1) + a1)) a1))) = some r := h
 clear h
 by_cases c3 : a1 = 0
 ·rw [if_pos c3] at H
  exact absurd H (by simp)
 ·rw [if_neg c3] at H
  have c3b0 : (a1 == 0) = false := beq_eq_false_iff_ne.mpr c3
  have c3b1 : (a1 != 0) = true := bne_iff_ne.mpr c3
  obtain rfl := Option.some.inj H
  go_enter Tryd.func21, Tryd.ntmps21
  go_wp2
  go_ret
  exact ⟨by first | rfl | (simp; done) | (simp [*]; done) | (simp [IntKind.wrap_u8, IntKind.wrap_i64, wrap64]; done) | (simp only [IntKind.wrap_u8]; rfl), by repeat (first | exact Drawn0.refl _ | apply Drawn0.step)⟩
end Go.Proofs.YtipenplplmdclaaDoor.Px
end
section
namespace Go.Proofs.YtipenplplmdclaaDoor.Str
open Go Go.Proofs.YtipenplplmdclaaDoorW.PrintWords
theorem ext {s t : ByteArray} (h : s.data.toList = t.data.toList) : s = t := by
  cases s; cases t
  simp only at h
  congr
  exact Array.ext' h
theorem size_L (s : ByteArray) : s.size = s.data.toList.length := by simp
theorem toList_L (s : ByteArray) : s.toList = s.data.toList := ByteArray.toList_eq s
theorem app_L (s t : ByteArray) : (s ++ t).data.toList = s.data.toList ++ t.data.toList := by simp
theorem extract_L (s : ByteArray) (a b : Nat) : (s.extract a b).data.toList = (s.data.toList.take b).drop a := by
  simp [List.drop_take]
theorem pre_L (s : ByteArray) (b : Nat) : (s.extract 0 b).data.toList = s.data.toList.take b := by rw [extract_L]; simp
theorem post_L (s : ByteArray) (a : Nat) : (s.extract a s.size).data.toList = s.data.toList.drop a := by
  rw [extract_L, List.take_of_length_le (by simp)]
theorem nums_L (xs : List Int) : (strOfNums xs).data.toList = xs.map fun n => UInt8.ofNat n.toNat := strOfNums_data xs
def ofL (l : List UInt8) : ByteArray := ⟨l.toArray⟩
@[simp] theorem ofL_L (l : List UInt8) : (ofL l).data.toList = l := rfl
@[simp] theorem ofL_size (l : List UInt8) : (ofL l).size = l.length := by simp [size_L]
theorem ofL_of (s : ByteArray) : ofL s.data.toList = s := ext rfl
theorem bt_L {s : ByteArray} {i : Nat} (h : i < s.size) : bt s (i : Int) = ((s.data.toList.getD i 0).toNat : Int) := by
  unfold bt
  rw [dif_pos (by simpa using h)]
  simp [List.getD, h]
  rfl
theorem wrap64_id {x : Int} (h0 : -9223372036854775808 ≤ x) (h1 : x < 9223372036854775808) : Go.RowKit.wrap64 x = x := by
  unfold Go.RowKit.wrap64
  omega
theorem wf_u32 {x : Int} (h : (Lit.int .u32 x).wf = true) : 0 ≤ x ∧ x < 4294967296 := by
  have e1 : IntKind.u32.min = 0 := rfl
  have e2 : IntKind.u32.max = 4294967295 := rfl
  simp [Lit.wf, e1, e2] at h
  omega
theorem wf_i64 {x : Int} (h : (Lit.int .i64 x).wf = true) : -9223372036854775808 ≤ x ∧ x ≤ 9223372036854775807 := by
  have e1 : IntKind.i64.min = -9223372036854775808 := rfl
  have e2 : IntKind.i64.max = 9223372036854775807 := rfl
  simp [Lit.wf, e1, e2] at h
  omega
theorem u8_nat (b : UInt8) : UInt8.ofNat ((b.toNat : Int)).toNat = b := by
  apply UInt8.toNat_inj.1
  have := b.toNat_lt
  simp
theorem map_u8 (l : List UInt8) : (l.map fun b => (b.toNat : Int)).map (fun n => UInt8.ofNat n.toNat) = l := by
  rw [List.map_map]
  conv => rhs; rw [← List.map_id l]
  apply List.map_congr_left
  intro b _
  exact u8_nat b
end Go.Proofs.YtipenplplmdclaaDoor.Str
end
section
namespace Go.Proofs.YtipenplplmdclaaDoor.Utf
open Go
def isC (c : Nat) : Prop := c ≤ 1114111 ∧ (c < 55296 ∨ 57343 < c)
instance (c : Nat) : Decidable (isC c) := by unfold isC; infer_instance
def encN (c : Nat) : List Nat :=
  if c < 128 then [c] else if c < 2048 then [192 + c / 64, 128 + c % 64]
  else if c < 65536 then [224 + c / 4096, 128 + c / 64 % 64, 128 + c % 64]
  else [240 + c / 262144, 128 + c / 4096 % 64, 128 + c / 64 % 64, 128 + c % 64]
def enc (c : Nat) : List UInt8 := (encN c).map UInt8.ofNat
def decN : List Nat → Option (Nat × Nat)
  | [] => none
  | a :: l =>
    if a < 128 then some (a, 1)
    else if a / 32 = 6 then (match l with
      | b :: _ => if b / 64 = 2 ∧ 128 ≤ a % 32 * 64 + b % 64 then some (a % 32 * 64 + b % 64, 2) else none
      | _ => none)
    else if a / 16 = 14 then (match l with
      | b :: c :: _ => if b / 64 = 2 ∧ c / 64 = 2 ∧ 2048 ≤ (a % 16 * 64 + b % 64) * 64 + c % 64 ∧ isC ((a % 16 * 64 + b % 64) * 64 + c % 64) then some ((a % 16 * 64 + b % 64) * 64 + c % 64, 3) else none
      | _ => none)
    else if a / 8 = 30 then (match l with
      | b :: c :: d :: _ => if b / 64 = 2 ∧ c / 64 = 2 ∧ d / 64 = 2 ∧ 65536 ≤ ((a % 8 * 64 + b % 64) * 64 + c % 64) * 64 + d % 64 ∧ isC (((a % 8 * 64 + b % 64) * 64 + c % 64) * 64 + d % 64) then some (((a % 8 * 64 + b % 64) * 64 + c % 64) * 64 + d % 64, 4) else none
      | _ => none)
    else none
def nat (l : List UInt8) : List Nat := l.map UInt8.toNat
def dec (l : List UInt8) : Option (Nat × Nat) := decN (nat l)
theorem nat_ofNat (l : List Nat) (h : ∀ x ∈ l, x < 256) : nat (l.map UInt8.ofNat) = l := by
  unfold nat
  rw [List.map_map]
  conv => rhs; rw [← List.map_id l]
  apply List.map_congr_left
  intro x hx
  have := h x hx
  simp
  omega
theorem encN_small (c : Nat) (h : isC c) : ∀ x ∈ encN c, x < 256 := by
  unfold isC at h
  unfold encN
  intro x hx
  split at hx
  · simp at hx; omega
  · split at hx
    · simp at hx; omega
    · split at hx
      · simp at hx; omega
      · simp at hx; omega
theorem nat_enc (c : Nat) (h : isC c) : nat (enc c) = encN c := nat_ofNat _ (encN_small c h)
theorem enc_length (c : Nat) : (enc c).length = (encN c).length := by simp [enc]
theorem encN_length (c : Nat) : 1 ≤ (encN c).length ∧ (encN c).length ≤ 4 := by
  unfold encN
  split
  · simp
  · split
    · simp
    · split <;> simp
theorem enc_len (c : Nat) : 1 ≤ (enc c).length ∧ (enc c).length ≤ 4 := by rw [enc_length]; exact encN_length c
theorem decN_enc (c : Nat) (h : isC c) (r : List Nat) : decN (encN c ++ r) = some (c, (encN c).length) := by
  have h' := h
  unfold isC at h'
  unfold encN
  by_cases h1 : c < 128
  · rw [if_pos h1]
    simp only [List.cons_append, decN, if_pos h1, List.length_cons, List.length_nil]
  · rw [if_neg h1]
    by_cases h2 : c < 2048
    · rw [if_pos h2]
      have e : (192 + c / 64) % 32 * 64 + (128 + c % 64) % 64 = c := by omega
      simp only [List.cons_append, List.nil_append, decN, List.length_cons, List.length_nil, e]
      rw [if_neg (by omega), if_pos (by omega), if_pos (by omega)]
    · rw [if_neg h2]
      by_cases h3 : c < 65536
      · rw [if_pos h3]
        have e : ((224 + c / 4096) % 16 * 64 + (128 + c / 64 % 64) % 64) * 64 + (128 + c % 64) % 64 = c := by omega
        simp only [List.cons_append, List.nil_append, decN, List.length_cons, List.length_nil, e]
        rw [if_neg (by omega), if_neg (by omega), if_pos (by omega), if_pos ⟨by omega, by omega, by omega, h⟩]
      · rw [if_neg h3]
        have e : (((240 + c / 262144) % 8 * 64 + (128 + c / 4096 % 64) % 64) * 64 + (128 + c / 64 % 64) % 64) * 64 + (128 + c % 64) % 64 = c := by omega
        simp only [List.cons_append, List.nil_append, decN, List.length_cons, List.length_nil, e]
        rw [if_neg (by omega), if_neg (by omega), if_neg (by omega), if_pos (by omega), if_pos ⟨by omega, by omega, by omega, by omega, h⟩]
theorem decN_inv (l : List Nat) (hl : ∀ x ∈ l, x < 256) {c n : Nat} (h : decN l = some (c, n)) : isC c ∧ n = (encN c).length ∧ l.take n = encN c := by
  cases l with
  | nil => cases h
  | cons a l =>
    have ha := hl a (by simp)
    simp only [decN] at h
    by_cases h1 : a < 128
    · rw [if_pos h1] at h
      cases h
      refine ⟨⟨by omega, by omega⟩, ?_, ?_⟩
      · unfold encN; rw [if_pos h1]; rfl
      · unfold encN; rw [if_pos h1]; rfl
    · rw [if_neg h1] at h
      by_cases h2 : a / 32 = 6
      · rw [if_pos h2] at h
        cases l with
        | nil => cases h
        | cons b l =>
          have hb := hl b (by simp)
          simp only at h
          split at h
          · rename_i hc
            cases h
            have e : encN (a % 32 * 64 + b % 64) = [a, b] := by
              unfold encN
              rw [if_neg (by omega), if_pos (by omega)]
              congr 1
              · omega
              · congr 1; omega
            rw [e]
            exact ⟨⟨by omega, by omega⟩, rfl, rfl⟩
          · cases h
      · rw [if_neg h2] at h
        by_cases h3 : a / 16 = 14
        · rw [if_pos h3] at h
          match l, h with
          | b :: d :: l, h =>
            have hb := hl b (by simp)
            have hd := hl d (by simp)
            simp only at h
            split at h
            · rename_i hc
              cases h
              have e : encN ((a % 16 * 64 + b % 64) * 64 + d % 64) = [a, b, d] := by
                unfold encN
                rw [if_neg (by omega), if_neg (by omega), if_pos (by omega)]
                congr 1
                · omega
                · congr 1
                  · omega
                  · congr 1; omega
              rw [e]
              exact ⟨hc.2.2.2, rfl, rfl⟩
            · cases h
        · rw [if_neg h3] at h
          by_cases h4 : a / 8 = 30
          · rw [if_pos h4] at h
            match l, h with
            | b :: d :: f :: l, h =>
              have hb := hl b (by simp)
              have hd := hl d (by simp)
              have hf := hl f (by simp)
              simp only at h
              split at h
              · rename_i hc
                cases h
                have e : encN (((a % 8 * 64 + b % 64) * 64 + d % 64) * 64 + f % 64) = [a, b, d, f] := by
                  unfold encN
                  rw [if_neg (by omega), if_neg (by omega), if_neg (by omega)]
                  congr 1
                  · omega
                  · congr 1
                    · omega
                    · congr 1
                      · omega
                      · congr 1; omega
                rw [e]
                exact ⟨hc.2.2.2.2, rfl, rfl⟩
              · cases h
          · rw [if_neg h4] at h
            cases h
theorem nat_small (l : List UInt8) : ∀ x ∈ nat l, x < 256 := by
  intro x hx
  unfold nat at hx
  rw [List.mem_map] at hx
  obtain ⟨b, _, rfl⟩ := hx
  exact b.toNat_lt
theorem nat_app (a b : List UInt8) : nat (a ++ b) = nat a ++ nat b := by simp [nat]
theorem nat_inj {a b : List UInt8} (h : nat a = nat b) : a = b := by
  unfold nat at h
  exact (List.map_inj_right (fun _ _ => UInt8.toNat_inj.1)).1 h
theorem dec_enc (c : Nat) (h : isC c) (r : List UInt8) : dec (enc c ++ r) = some (c, (enc c).length) := by
  unfold dec
  rw [nat_app, nat_enc c h, decN_enc c h, enc_length]
theorem dec_inv {l : List UInt8} {c n : Nat} (h : dec l = some (c, n)) : isC c ∧ n = (enc c).length ∧ l = enc c ++ l.drop n := by
  obtain ⟨h1, h2, h3⟩ := decN_inv (nat l) (nat_small l) h
  refine ⟨h1, by rw [enc_length]; exact h2, ?_⟩
  have e : l.take n = enc c := by
    apply nat_inj
    rw [nat_enc c h1, ← h3]
    simp [nat, List.map_take]
  rw [← e, List.take_append_drop]
theorem dec_le {l : List UInt8} {c n : Nat} (h : dec l = some (c, n)) : 1 ≤ n ∧ n ≤ 4 ∧ n ≤ l.length := by
  obtain ⟨_, h2, h3⟩ := dec_inv h
  have := enc_len c
  have h4 := congrArg List.length h3
  rw [List.length_append] at h4
  omega
def chs (l : List UInt8) : Option (List Nat) :=
  match h : dec l with
  | none => if l = [] then some [] else none
  | some (c, n) => (chs (l.drop n)).map (c :: ·)
termination_by l.length
decreasing_by
  have := dec_le h
  rw [List.length_drop]
  omega
theorem chs_nil : chs [] = some [] := by
  rw [chs]
  split
  · rfl
  · rename_i h
    cases h
theorem chs_none {l : List UInt8} (h : dec l = none) (hl : l ≠ []) : chs l = none := by
  rw [chs]
  split
  · rw [if_neg hl]
  · rename_i h'
    rw [h] at h'
    cases h'
theorem chs_some {l : List UInt8} {c n : Nat} (h : dec l = some (c, n)) : chs l = (chs (l.drop n)).map (c :: ·) := by
  rw [chs]
  split
  · rename_i h'
    rw [h] at h'
    cases h'
  · rename_i c' n' h'
    rw [h] at h'
    cases h'
    rfl
def encs (cs : List Nat) : List UInt8 := cs.flatMap enc
theorem encs_cons (c : Nat) (cs : List Nat) : encs (c :: cs) = enc c ++ encs cs := by simp [encs]
theorem chs_cons (c : Nat) (h : isC c) (r : List UInt8) : chs (enc c ++ r) = (chs r).map (c :: ·) := by
  rw [chs_some (dec_enc c h r), List.drop_left]
theorem chs_encs (cs : List Nat) (h : ∀ c ∈ cs, isC c) (r : List UInt8) : chs (encs cs ++ r) = (chs r).map (cs ++ ·) := by
  induction cs with
  | nil => cases hr : chs r <;> simp [encs, hr]
  | cons c cs ih =>
    rw [encs_cons, List.append_assoc, chs_cons c (h c (by simp)), ih (fun x hx => h x (by simp [hx]))]
    cases chs r <;> simp
theorem chs_all (cs : List Nat) (h : ∀ c ∈ cs, isC c) : chs (encs cs) = some cs := by
  have := chs_encs cs h []
  rw [List.append_nil, chs_nil] at this
  simpa using this
theorem chs_inv (n : Nat) : ∀ (l : List UInt8) (cs : List Nat), l.length ≤ n → chs l = some cs → (∀ c ∈ cs, isC c) ∧ l = encs cs := by
  induction n with
  | zero =>
    intro l cs hl h
    obtain rfl : l = [] := List.length_eq_zero_iff.mp (by omega)
    rw [chs_nil] at h
    cases h
    exact ⟨by simp, rfl⟩
  | succ n ih =>
    intro l cs hl h
    cases hd : dec l with
    | none =>
      by_cases h0 : l = []
      · subst h0
        rw [chs_nil] at h
        cases h
        exact ⟨by simp, rfl⟩
      · rw [chs_none hd h0] at h
        cases h
    | some x =>
      obtain ⟨c, k⟩ := x
      have hk := dec_le hd
      obtain ⟨i1, i2, i3⟩ := dec_inv hd
      rw [chs_some hd] at h
      cases hr : chs (l.drop k) with
      | none => rw [hr] at h; cases h
      | some ds =>
        rw [hr] at h
        cases h
        obtain ⟨j1, j2⟩ := ih (l.drop k) ds (by rw [List.length_drop]; omega) hr
        refine ⟨fun x hx => ?_, ?_⟩
        · rw [List.mem_cons] at hx
          rcases hx with rfl | hx
          · exact i1
          · exact j1 x hx
        · rw [encs_cons, ← j2]
          exact i3
theorem chs_iff {l : List UInt8} {cs : List Nat} : chs l = some cs ↔ (∀ c ∈ cs, isC c) ∧ l = encs cs :=
  ⟨chs_inv l.length l cs (Nat.le_refl _), fun ⟨h, e⟩ => by rw [e]; exact chs_all cs h⟩
theorem chs_length {l : List UInt8} {cs : List Nat} (h : chs l = some cs) : cs.length ≤ l.length := by
  obtain ⟨h1, e⟩ := chs_iff.1 h
  rw [e]
  clear h e h1
  induction cs with
  | nil => simp [encs]
  | cons c cs ih => rw [encs_cons, List.length_append]; have := enc_len c; simp; omega
def cont (b : UInt8) : Prop := b.toNat / 64 = 2
instance (b : UInt8) : Decidable (cont b) := by unfold cont; infer_instance
end Go.Proofs.YtipenplplmdclaaDoor.Utf
end
section
namespace Go.Proofs.YtipenplplmdclaaDoor.Utf
open Go
theorem enc_ascii (c : Nat) (h : c < 128) : enc c = [UInt8.ofNat c] := by
  unfold enc encN
  rw [if_pos h]
  rfl
theorem enc_u8 (b : UInt8) (h : b.toNat < 128) : enc b.toNat = [b] := by
  rw [enc_ascii _ h]
  congr 1
  simp
def calm (c : Nat) : Prop := 32 ≤ c ∧ c ≠ 127
instance (c : Nat) : Decidable (calm c) := by unfold calm; infer_instance
end Go.Proofs.YtipenplplmdclaaDoor.Utf
end
section
namespace Go.Proofs.YtipenplplmdclaaDoor.Utf
open Go Go.RowKit Go.Proofs.YtipenplplmdclaaDoor.Px Go.Proofs.YtipenplplmdclaaDoorW.PrintWords Go.Proofs.YtipenplplmdclaaDoor.Str
theorem is_f (c : Nat) : utf_is.f (c : Int) = some (decide (isC c)) := by
  unfold utf_is.f
  rw [if_pos (by omega)]
  by_cases h1 : c ≤ 1114111
  · rw [if_pos (by omega)]
    by_cases h2 : c < 55296
    · rw [if_pos (by omega), decide_eq_true (show isC c from ⟨h1, .inl h2⟩)]
    · rw [if_neg (by omega)]
      congr 1
      rw [Bool.eq_iff_iff, decide_eq_true_eq, decide_eq_true_eq]
      unfold isC
      omega
  · rw [if_neg (by omega), decide_eq_false (fun z : isC c => h1 z.1)]
theorem f63 : ∀ b : Fin 256, Go.bits .and .u8 (b.val : Int) 63 = ((b.val % 64 : Nat) : Int) := by decide +kernel
theorem f31 : ∀ b : Fin 256, Go.bits .and .u8 (b.val : Int) 31 = ((b.val % 32 : Nat) : Int) := by decide +kernel
theorem f15 : ∀ b : Fin 256, Go.bits .and .u8 (b.val : Int) 15 = ((b.val % 16 : Nat) : Int) := by decide +kernel
theorem f7 : ∀ b : Fin 256, Go.bits .and .u8 (b.val : Int) 7 = ((b.val % 8 : Nat) : Int) := by decide +kernel
theorem or_i64 (x y : Nat) (hx : x % 64 = 0) (hx1 : x < 4611686018427387904) (hy : y < 64) : Go.bits .or .i64 (x : Int) (y : Int) = ((x + y : Nat) : Int) := by
  rw [bits_join .i64 63 (by decide) (fun n h0 h1 => by rw [IntKind.wrap_i64]; omega) 6 (x : Int) (y : Int) (by omega) (by omega) (by omega) (by omega) (by omega) (by omega)]
  omega
def at_ (s : ByteArray) (i : Nat) : Nat := (s.data.toList.getD i 0).toNat
theorem at_lt (s : ByteArray) (i : Nat) : at_ s i < 256 := (s.data.toList.getD i 0).toNat_lt
theorem bt_at {s : ByteArray} {i : Nat} (h : i < s.size) : bt s (i : Int) = (at_ s i : Int) := bt_L h
theorem first_step (s : ByteArray) (k c n i : Nat) (hc : c < 2097152) (hi : i < n) (hs : i < s.size) (hi8 : i < 8) :
    utf_First.l0 (k + 1) s (c : Int) (n : Int) (i : Int) = if at_ s i / 64 = 2 then utf_First.l0 k s ((c * 64 + at_ s i % 64 : Nat) : Int) (n : Int) ((i + 1 : Nat) : Int) else some (0, 0, 40) := by
  have hb := at_lt s i
  simp only [utf_First.l0]
  rw [if_pos (by omega), if_pos (by omega), if_pos (by omega), bt_at hs]
  have e := f63 ⟨at_ s i, hb⟩
  simp only at e
  rw [e, wrap64_id (x := (c : Int) * 64) (by omega) (by omega), wrap64_id (x := ((at_ s i % 64 : Nat) : Int)) (by omega) (by omega), show (c : Int) * 64 = ((c * 64 : Nat) : Int) by omega,
    or_i64 (c * 64) (at_ s i % 64) (by omega) (by omega) (by omega), wrap64_id (by omega) (by omega)]
  by_cases h : at_ s i / 64 = 2
  · rw [if_pos (by omega), if_pos h]
    rfl
  · rw [if_neg (by omega), if_neg h]
def lst (n : Nat) : Nat := if n = 2 then 128 else if n = 3 then 2048 else if n = 4 then 65536 else 0
theorem first_end (s : ByteArray) (k c n : Nat) : utf_First.l0 (k + 1) s (c : Int) (n : Int) (n : Int) = some (if isC c ∧ lst n ≤ c then ((c : Int), (n : Int), (0 : Int)) else (0, 0, 40)) := by
  simp only [utf_First.l0]
  rw [if_neg (by omega), is_f]
  simp only [Option.bind_some, decide_eq_true_eq]
  by_cases h : isC c
  · rw [if_pos h]
    have hl : utf_least.f (n : Int) = some ((lst n : Nat) : Int) := by
      unfold utf_least.f lst
      by_cases h2 : n = 2
      · rw [if_pos (by omega), if_pos h2]; rfl
      · rw [if_neg (by omega), if_neg h2]
        by_cases h3 : n = 3
        · rw [if_pos (by omega), if_pos h3]; rfl
        · rw [if_neg (by omega), if_neg h3]
          by_cases h4 : n = 4
          · rw [if_pos (by omega), if_pos h4]; rfl
          · rw [if_neg (by omega), if_neg h4]; rfl
    rw [hl]
    simp only [Option.bind_some]
    by_cases hc : lst n ≤ c
    · rw [if_neg (by omega), if_pos ⟨h, hc⟩]
    · rw [if_pos (by omega), if_neg (fun z => hc z.2)]
  · rw [if_neg h, if_neg (fun z => h z.1)]
def decR (l : List UInt8) : Int × Int × Int := match dec l with | some (c, n) => ((c : Int), (n : Int), 0) | none => (0, 0, 40)
theorem decR_some {l : List UInt8} {c n : Nat} (h : dec l = some (c, n)) : decR l = ((c : Int), (n : Int), 0) := by unfold decR; rw [h]
theorem decR_none {l : List UInt8} (h : dec l = none) : decR l = (0, 0, 40) := by unfold decR; rw [h]
theorem first_k (s : ByteArray) (k : Nat) : utf_First.f (k + 5) s = some (decR s.data.toList) := by
  unfold utf_First.f
  rw [toList_L]
  cases hl : s.data.toList with
  | nil => rw [if_pos rfl]; rfl
  | cons a l =>
    have hsz : s.size = l.length + 1 := by rw [size_L, hl]; rfl
    have ha : at_ s 0 = a.toNat := by unfold at_; rw [hl]; rfl
    have hal := a.toNat_lt
    have hb0 : bt s 0 = (a.toNat : Int) := by
      have := bt_at (s := s) (i := 0) (by omega)
      rw [ha] at this
      exact this
    rw [if_neg (by simp), if_pos (by omega), hb0]
    unfold utf_long.f
    have gen : ∀ (n c : Nat), n ≠ 0 → (if (n : Int) = 0 then utf_First.j0 (k + 5) s (c : Int) (n : Int) true else utf_First.j0 (k + 5) s (c : Int) (n : Int) (decide ((n : Int) > (s.size : Int)))) = if n ≤ s.size then utf_First.l0 (k + 4) s (c : Int) (n : Int) ((1 : Nat) : Int) else some (0, 0, 40) := by
      intro n c h0
      rw [if_neg (by omega)]
      simp only [utf_First.j0, decide_eq_true_eq]
      by_cases h : n ≤ s.size
      · rw [if_neg (by omega), if_pos h]; rfl
      · rw [if_pos (by omega), if_neg h]
    have fl : ∀ m : Nat, m < 256 → wrap64 (m : Int) = (m : Int) := fun m hm => wrap64_id (by omega) (by omega)
    have na : nat (a :: l) = a.toNat :: nat l := rfl
    by_cases h1 : a.toNat < 128
    · rw [if_pos (by omega), fl _ hal]
      simp only [Option.bind_some]
      have g := gen 1 a.toNat (by decide)
      rw [show ((1 : Nat) : Int) = 1 from rfl] at g
      rw [g, if_pos (by omega)]
      have e := first_end s (k + 3) a.toNat 1
      rw [show ((1 : Nat) : Int) = 1 from rfl] at e
      rw [e, if_pos ⟨⟨by omega, by omega⟩, by show 0 ≤ _; omega⟩]
      unfold decR dec
      rw [na]
      simp only [decN, if_pos h1]
      rfl
    · rw [if_neg (by omega)]
      by_cases h2 : a.toNat / 32 = 6
      · have e31 := f31 ⟨a.toNat, hal⟩
        simp only at e31
        rw [if_pos (by omega), e31, fl _ (by omega)]
        simp only [Option.bind_some]
        have g := gen 2 (a.toNat % 32) (by decide)
        rw [show ((2 : Nat) : Int) = 2 from rfl] at g
        rw [g]
        cases l with
        | nil =>
          rw [if_neg (by simp at hsz; omega)]
          unfold decR dec
          rw [na]
          simp only [decN, if_neg h1, if_pos h2, nat, List.map_nil]
        | cons b l =>
          have hb : at_ s 1 = b.toNat := by unfold at_; rw [hl]; rfl
          have hbl := b.toNat_lt
          have st := first_step s (k + 3) (a.toNat % 32) 2 1 (by omega) (by decide) (by simp at hsz; omega) (by decide)
          have en := first_end s (k + 2) (a.toNat % 32 * 64 + b.toNat % 64) 2
          rw [show ((2 : Nat) : Int) = 2 from rfl] at st en
          rw [if_pos (by simp at hsz; omega), st, hb]
          unfold decR dec
          rw [na]
          simp only [decN, if_neg h1, if_pos h2, nat, List.map_cons]
          by_cases c1 : b.toNat / 64 = 2
          · rw [if_pos c1, en]
            by_cases c2 : lst 2 ≤ a.toNat % 32 * 64 + b.toNat % 64
            · rw [if_pos ⟨⟨by omega, by omega⟩, c2⟩, if_pos ⟨c1, c2⟩]
              rfl
            · rw [if_neg (fun z => c2 z.2), if_neg (fun z => c2 z.2)]
          · rw [if_neg c1, if_neg (fun z => c1 z.1)]
      · rw [if_neg (by omega)]
        by_cases h3 : a.toNat / 16 = 14
        · have e15 := f15 ⟨a.toNat, hal⟩
          simp only at e15
          rw [if_pos (by omega), e15, fl _ (by omega)]
          simp only [Option.bind_some]
          have g := gen 3 (a.toNat % 16) (by decide)
          rw [show ((3 : Nat) : Int) = 3 from rfl] at g
          rw [g]
          match l, hl, hsz, na with
          | [], hl, hsz, na =>
            rw [if_neg (by simp at hsz; omega)]
            unfold decR dec
            rw [na]
            simp only [decN, if_neg h1, if_neg h2, if_pos h3, nat, List.map_nil]
          | [b], hl, hsz, na =>
            rw [if_neg (by simp at hsz; omega)]
            unfold decR dec
            rw [na]
            simp only [decN, if_neg h1, if_neg h2, if_pos h3, nat, List.map_cons, List.map_nil]
          | b :: d :: l, hl, hsz, na =>
            have hb : at_ s 1 = b.toNat := by unfold at_; rw [hl]; rfl
            have hd : at_ s 2 = d.toNat := by unfold at_; rw [hl]; rfl
            have hbl := b.toNat_lt
            have hdl := d.toNat_lt
            simp only [List.length_cons] at hsz
            have s1 := first_step s (k + 3) (a.toNat % 16) 3 1 (by omega) (by decide) (by omega) (by decide)
            have s2 := first_step s (k + 2) (a.toNat % 16 * 64 + b.toNat % 64) 3 2 (by omega) (by decide) (by omega) (by decide)
            have en := first_end s (k + 1) ((a.toNat % 16 * 64 + b.toNat % 64) * 64 + d.toNat % 64) 3
            rw [show ((3 : Nat) : Int) = 3 from rfl] at s1 s2 en
            rw [if_pos (by omega), s1, hb]
            unfold decR dec
            rw [na]
            simp only [decN, if_neg h1, if_neg h2, if_pos h3, nat, List.map_cons]
            by_cases c1 : b.toNat / 64 = 2
            · rw [if_pos c1, show (1 + 1 : Nat) = 2 from rfl, s2, hd]
              by_cases c2 : d.toNat / 64 = 2
              · rw [if_pos c2, en]
                by_cases c3 : isC ((a.toNat % 16 * 64 + b.toNat % 64) * 64 + d.toNat % 64) ∧ lst 3 ≤ (a.toNat % 16 * 64 + b.toNat % 64) * 64 + d.toNat % 64
                · rw [if_pos c3, if_pos ⟨c1, c2, c3.2, c3.1⟩]
                  rfl
                · rw [if_neg c3, if_neg (fun z => c3 ⟨z.2.2.2, z.2.2.1⟩)]
              · rw [if_neg c2, if_neg (fun z => c2 z.2.1)]
            · rw [if_neg c1, if_neg (fun z => c1 z.1)]
        · rw [if_neg (by omega)]
          by_cases h4 : a.toNat / 8 = 30
          · have e7 := f7 ⟨a.toNat, hal⟩
            simp only at e7
            rw [if_pos (by omega), e7, fl _ (by omega)]
            simp only [Option.bind_some]
            have g := gen 4 (a.toNat % 8) (by decide)
            rw [show ((4 : Nat) : Int) = 4 from rfl] at g
            rw [g]
            match l, hl, hsz, na with
            | [], hl, hsz, na =>
              rw [if_neg (by simp at hsz; omega)]
              unfold decR dec
              rw [na]
              simp only [decN, if_neg h1, if_neg h2, if_neg h3, if_pos h4, nat, List.map_nil]
            | [b], hl, hsz, na =>
              rw [if_neg (by simp at hsz; omega)]
              unfold decR dec
              rw [na]
              simp only [decN, if_neg h1, if_neg h2, if_neg h3, if_pos h4, nat, List.map_cons, List.map_nil]
            | [b, d], hl, hsz, na =>
              rw [if_neg (by simp at hsz; omega)]
              unfold decR dec
              rw [na]
              simp only [decN, if_neg h1, if_neg h2, if_neg h3, if_pos h4, nat, List.map_cons, List.map_nil]
            | b :: d :: f :: l, hl, hsz, na =>
              have hb : at_ s 1 = b.toNat := by unfold at_; rw [hl]; rfl
              have hd : at_ s 2 = d.toNat := by unfold at_; rw [hl]; rfl
              have hf : at_ s 3 = f.toNat := by unfold at_; rw [hl]; rfl
              have hbl := b.toNat_lt
              have hdl := d.toNat_lt
              have hfl := f.toNat_lt
              simp only [List.length_cons] at hsz
              have s1 := first_step s (k + 3) (a.toNat % 8) 4 1 (by omega) (by decide) (by omega) (by decide)
              have s2 := first_step s (k + 2) (a.toNat % 8 * 64 + b.toNat % 64) 4 2 (by omega) (by decide) (by omega) (by decide)
              have s3 := first_step s (k + 1) ((a.toNat % 8 * 64 + b.toNat % 64) * 64 + d.toNat % 64) 4 3 (by omega) (by decide) (by omega) (by decide)
              have en := first_end s k (((a.toNat % 8 * 64 + b.toNat % 64) * 64 + d.toNat % 64) * 64 + f.toNat % 64) 4
              rw [show ((4 : Nat) : Int) = 4 from rfl] at s1 s2 s3 en
              rw [if_pos (by omega), s1, hb]
              unfold decR dec
              rw [na]
              simp only [decN, if_neg h1, if_neg h2, if_neg h3, if_pos h4, nat, List.map_cons]
              by_cases c1 : b.toNat / 64 = 2
              · rw [if_pos c1, show (1 + 1 : Nat) = 2 from rfl, s2, hd]
                by_cases c2 : d.toNat / 64 = 2
                · rw [if_pos c2, show (2 + 1 : Nat) = 3 from rfl, s3, hf]
                  by_cases c4 : f.toNat / 64 = 2
                  · rw [if_pos c4, en]
                    by_cases c3 : isC (((a.toNat % 8 * 64 + b.toNat % 64) * 64 + d.toNat % 64) * 64 + f.toNat % 64) ∧ lst 4 ≤ ((a.toNat % 8 * 64 + b.toNat % 64) * 64 + d.toNat % 64) * 64 + f.toNat % 64
                    · rw [if_pos c3, if_pos ⟨c1, c2, c4, c3.2, c3.1⟩]
                      rfl
                    · rw [if_neg c3, if_neg (fun z => c3 ⟨z.2.2.2.2, z.2.2.2.1⟩)]
                  · rw [if_neg c4, if_neg (fun z => c4 z.2.2.1)]
                · rw [if_neg c2, if_neg (fun z => c2 z.2.1)]
              · rw [if_neg c1, if_neg (fun z => c1 z.1)]
          · rw [if_neg (by omega)]
            simp only [Option.bind_some, if_true, utf_First.j0]
            unfold decR dec
            rw [na]
            simp only [decN, if_neg h1, if_neg h2, if_neg h3, if_neg h4]
theorem first_ev (s : ByteArray) : Ev (fun k => utf_First.f k s) (decR s.data.toList) :=
  ⟨5, fun k hk => by obtain ⟨j, rfl⟩ : ∃ j, k = j + 5 := ⟨k - 5, by omega⟩; exact first_k s j⟩
def ints (cs : List Nat) : List Int := cs.map fun c : Nat => (c : Int)
def chsR (acc : List Int) (l : List UInt8) : List Int × Int := match chs l with | some cs => (acc ++ ints cs, 0) | none => ([], 40)
theorem chsR_some {acc : List Int} {l : List UInt8} {cs : List Nat} (h : chs l = some cs) : chsR acc l = (acc ++ ints cs, 0) := by unfold chsR; rw [h]
theorem chsR_none {acc : List Int} {l : List UInt8} (h : chs l = none) : chsR acc l = ([], 40) := by unfold chsR; rw [h]
theorem chsR_step {acc : List Int} {l : List UInt8} {c n : Nat} (h : dec l = some (c, n)) : chsR acc l = chsR (acc ++ [(c : Int)]) (l.drop n) := by
  cases hr : chs (l.drop n) with
  | none => rw [chsR_none hr, chsR_none (by rw [chs_some h, hr]; rfl)]
  | some cs => rw [chsR_some hr, chsR_some (cs := c :: cs) (by rw [chs_some h, hr]; rfl)]; simp [ints]
theorem chars_l0 (n : Nat) : ∀ (s : ByteArray) (acc : List Int), s.size ≤ n → acc.length + s.size ≤ 1073741824 → Ev (fun k => utf_Chars.l0 k s acc) (chsR acc s.data.toList) := by
  induction n with
  | zero =>
    intro s acc hs _
    have h0 : s.data.toList = [] := List.length_eq_zero_iff.mp (by rw [← size_L]; omega)
    rw [h0, chsR_some chs_nil]
    refine Ev.step (f := fun _ => some _) (fun k => ?_) (Ev.now _)
    simp only [utf_Chars.l0]
    rw [if_pos (by rw [toList_L, h0])]
    simp [ints]
  | succ n ih =>
    intro s acc hs ha
    by_cases h0 : s.data.toList = []
    · rw [h0, chsR_some chs_nil]
      refine Ev.step (f := fun _ => some _) (fun k => ?_) (Ev.now _)
      simp only [utf_Chars.l0]
      rw [if_pos (by rw [toList_L, h0])]
      simp [ints]
    · cases hd : dec s.data.toList with
      | none =>
        rw [chsR_none (chs_none hd h0)]
        refine Ev.step (f := fun k => (utf_First.f k s).bind fun _ => some (([] : List Int), (40 : Int))) (fun k => ?_) (Ev.bind (first_ev s) (Ev.now _))
        simp only [utf_Chars.l0]
        rw [if_neg (by rw [toList_L]; exact h0)]
        cases hf : utf_First.f k s with
        | none => rfl
        | some x =>
          have h5 := at_rounds (g := fun k => utf_First.f k s) (fun k => utf_First.mono s k) (show k ≤ k + 5 by omega) hf
          rw [first_k, decR_none hd] at h5
          cases h5
          rfl
      | some x =>
        obtain ⟨c, m⟩ := x
        have hm := dec_le hd
        rw [← size_L] at hm
        rw [chsR_step hd]
        have h := ih (s.extract m s.size) (acc ++ [(c : Int)]) (by rw [size_L, post_L, List.length_drop, ← size_L]; omega) (by rw [size_L, post_L, List.length_drop, ← size_L, List.length_append]; simp; omega)
        rw [post_L] at h
        refine Ev.step (f := fun k => (utf_First.f k s).bind fun b => if b.2.2 = 0 then (if acc.length < 17592186044416 then (if 0 ≤ b.2.1 then (if b.2.1 ≤ (s.size : Int) then (utf_Chars.l0 k (s.extract (b.2.1 : Int).toNat s.size) (acc ++ [b.1])) else none) else none) else none) else some (([] : List Int), b.2.2)) (fun k => ?_) ?_
        · simp only [utf_Chars.l0]
          rw [if_neg (by rw [toList_L]; exact h0)]
        · refine Ev.bind (first_ev s) ?_
          rw [decR_some hd]
          refine Ev.congr (fun k => ?_) h
          simp only [if_true]
          rw [if_pos (by omega), if_pos (by omega), if_pos (by omega), Int.toNat_natCast]
theorem chars_ev (s : ByteArray) (hs : s.size ≤ 1073741824) : Ev (fun k => utf_Chars.f k s) (chsR [] s.data.toList) := by
  unfold utf_Chars.f
  exact chars_l0 s.size s [] (Nat.le_refl _) (by simpa using hs)
end Go.Proofs.YtipenplplmdclaaDoor.Utf
end
section
namespace Go.Proofs.YtipenplplmdclaaDoor.Utf
open Go Go.RowKit Go.Proofs.YtipenplplmdclaaDoor.Px Go.Proofs.YtipenplplmdclaaDoorW.PrintWords Go.Proofs.YtipenplplmdclaaDoor.Str
def gs (f : Nat → Nat) (n : Nat) : Nat :=
  if n = 1 then f 0 else if n = 2 then f 0 % 32 * 64 + f 1 % 64
  else if n = 3 then (f 0 % 16 * 64 + f 1 % 64) * 64 + f 2 % 64
  else ((f 0 % 8 * 64 + f 1 % 64) * 64 + f 2 % 64) * 64 + f 3 % 64
end Go.Proofs.YtipenplplmdclaaDoor.Utf
end
section
namespace Go.Proofs.YtipenplplmdclaaDoor.Tkt
open Go Go.RowKit Go.Proofs.YtipenplplmdclaaDoor.Px Go.Proofs.YtipenplplmdclaaDoorW.PrintWords Go.Proofs.YtipenplplmdclaaDoor.Str Go.Proofs.YtipenplplmdclaaDoor.Utf
set_option linter.unusedSimpArgs false
set_option linter.unusedVariables false
theorem ev_succ {α : Type} {g : Nat → Option α} {r : α} (K : Nat) (h : ∀ k, K ≤ k → g (k + 1) = some r) : Ev g r := ⟨K + 1, fun k hk => by
  obtain ⟨k', rfl⟩ : ∃ k', k = k' + 1 := ⟨k - 1, by omega⟩
  exact h k' (by omega)⟩
def plB (s : ByteArray) (m : Int) : Bool := match chs s.data.toList with | some cs => !((ints cs).any norm_plain.ctl) && decide ((s.size : Int) ≤ m) | none => false
theorem plain_ev (s : ByteArray) (m : Int) (hs : s.size ≤ 1073741824) : Ev (fun k => norm_plain.f k s m) (plB s m) := by
  unfold norm_plain.f plB
  refine Ev.bind (chars_ev s hs) ?_
  cases h : chs s.data.toList with
  | none =>
    rw [chsR_none h]
    exact Ev.congr (f := fun _ => some false) (fun k => by simp) (Ev.now _)
  | some cs =>
    rw [chsR_some h]
    have hl := chs_length h
    have : s.data.toList.length = s.size := by simp
    refine Ev.congr (f := fun _ => some (!((ints cs).any norm_plain.ctl) && decide ((s.size : Int) ≤ m))) (fun k => ?_) (Ev.now _)
    simp only [List.nil_append]
    rw [if_pos (by simp [ints]; omega)]
    simp
def evB (a b c : ByteArray) (n : Int) (d : ByteArray) : Bool := !(decide (a.toList = [])) && (!(decide (b.toList = [])) && (plB a 64 && (plB b 64 && (plB c 128 && (plB d 1024 && (decide (0 ≤ n) && decide (n ≤ 5)))))))
theorem ncheck_ev (a b c : ByteArray) (n : Int) (d : ByteArray) (ha : a.size ≤ 1073741824) (hb : b.size ≤ 1073741824) (hc : c.size ≤ 1073741824) (hd : d.size ≤ 1073741824) : Ev (fun k => norm_Check.f k a b c n d) (if evB a b c n d = true then 0 else 180) := by
  obtain ⟨K1, h1⟩ := plain_ev a 64 ha
  obtain ⟨K2, h2⟩ := plain_ev b 64 hb
  obtain ⟨K3, h3⟩ := plain_ev c 128 hc
  obtain ⟨K4, h4⟩ := plain_ev d 1024 hd
  refine ev_succ (K1 + K2 + K3 + K4) fun k hk => ?_
  simp only [norm_Check.f, norm_Check.j0, h1 (k + 1) (by omega), h2 (k + 1) (by omega), h3 k (by omega), h4 k (by omega), Option.bind_some, evB]
  by_cases e1 : a.toList = []
  · simp [e1]
  by_cases e2 : b.toList = []
  · simp [e1, e2]
  rcases (by omega : n < 0 ∨ 5 < n ∨ (0 ≤ n ∧ n ≤ 5)) with q | q | ⟨q, q'⟩
  · have r3 : ¬ (0 ≤ n) := by omega
    rcases Bool.eq_false_or_eq_true (plB a 64) with p1 | p1 <;> rcases Bool.eq_false_or_eq_true (plB b 64) with p2 | p2 <;> rcases Bool.eq_false_or_eq_true (plB c 128) with p3 | p3 <;> rcases Bool.eq_false_or_eq_true (plB d 1024) with p4 | p4 <;> simp [e1, e2, p1, p2, p3, p4, q, r3]
  · have r1 : ¬ (n < 0) := by omega
    have r2 : n > 5 := q
    have r4 : ¬ (n ≤ 5) := by omega
    rcases Bool.eq_false_or_eq_true (plB a 64) with p1 | p1 <;> rcases Bool.eq_false_or_eq_true (plB b 64) with p2 | p2 <;> rcases Bool.eq_false_or_eq_true (plB c 128) with p3 | p3 <;> rcases Bool.eq_false_or_eq_true (plB d 1024) with p4 | p4 <;> simp [e1, e2, p1, p2, p3, p4, q, r1, r2, r4]
  · have r1 : ¬ (n < 0) := by omega
    have r2 : ¬ (n > 5) := by omega
    have r5 : ¬ (5 < n) := by omega
    rcases Bool.eq_false_or_eq_true (plB a 64) with p1 | p1 <;> rcases Bool.eq_false_or_eq_true (plB b 64) with p2 | p2 <;> rcases Bool.eq_false_or_eq_true (plB c 128) with p3 | p3 <;> rcases Bool.eq_false_or_eq_true (plB d 1024) with p4 | p4 <;> simp [e1, e2, p1, p2, p3, p4, q, q', r1, r2, r5]
def whoB (s : ByteArray) : Bool := !(decide (s.toList = [])) && plB s 64
theorem pl_ascii (b : UInt8) (h : 32 ≤ b.toNat ∧ b.toNat < 127) (m : Int) (hm : 1 ≤ m) : plB (⟨#[b]⟩ : ByteArray) m = true := by
  have hc : isC b.toNat := by unfold isC; omega
  have he : encs [b.toNat] = [b] := by rw [encs_cons, enc_u8 b (by omega)]; rfl
  have := chs_all [b.toNat] (by simpa using hc)
  rw [he] at this
  have e2 : chs (⟨#[b]⟩ : ByteArray).data.toList = some [b.toNat] := this
  unfold plB
  rw [e2]
  have hn : norm_plain.ctl (b.toNat : Int) = false := decide_eq_false (by omega)
  simp only [ints, List.map_cons, List.map_nil, List.any_cons, List.any_nil, hn, Bool.or_false, Bool.not_false, Bool.true_and]
  exact decide_eq_true (by show ((1 : Nat) : Int) ≤ m; omega)
theorem pl_empty (m : Int) (hm : 0 ≤ m) : plB (⟨#[]⟩ : ByteArray) m = true := by
  have e2 : chs (⟨#[]⟩ : ByteArray).data.toList = some [] := chs_nil
  unfold plB
  rw [e2]
  simp only [ints, List.map_nil, List.any_nil, Bool.not_false, Bool.true_and]
  exact decide_eq_true (by show ((0 : Nat) : Int) ≤ m; omega)
theorem who_one (s : ByteArray) (b : UInt8) (h : 32 ≤ b.toNat ∧ b.toNat < 127) : evB s (⟨#[b]⟩ : ByteArray) (⟨#[]⟩ : ByteArray) 0 (⟨#[]⟩ : ByteArray) = whoB s := by
  have hb : ¬ ((⟨#[b]⟩ : ByteArray).toList = []) := by rw [toList_L]; simp
  simp [evB, whoB, pl_ascii b h, pl_empty, hb]
theorem who_ev (s : ByteArray) (hs : s.size ≤ 1073741824) : Ev (fun k => board_isWho.f k s) (whoB s) := by
  unfold board_isWho.f
  refine Ev.bind (ncheck_ev s _ _ 0 _ hs (by decide) (by decide) (by decide)) ?_
  rw [who_one s 99 (by decide)]
  exact Ev.congr (f := fun _ => some (whoB s)) (fun k => by cases whoB s <;> rfl) (Ev.now _)
def timesB (f l : Int) : Bool := decide (0 ≤ f ∧ f ≤ 2305843009213693952 ∧ 0 ≤ l ∧ l ≤ 2305843009213693952 ∧ f ≤ l)
theorem times_f (f l : Int) (J : Bool → Option Int) : ((board_isTime.f f).bind fun t => (if t = true then ((board_isTime.f l).bind fun u => (if u = true then J (decide (f ≤ l)) else J false)) else J false)) = J (timesB f l) := by
  unfold board_isTime.f timesB
  by_cases z1 : f ≥ 0
  · by_cases z3 : f ≤ 2305843009213693952
    · by_cases z2 : l ≥ 0
      · by_cases z4 : l ≤ 2305843009213693952
        · simp [z1, z2, z3, z4, show 0 ≤ f from z1, show 0 ≤ l from z2]
        · simp [z1, z2, z3, z4]
      · simp [z1, z2, z3, show ¬ (0 ≤ l) from z2]
    · simp [z1, z3]
  · simp [z1, show ¬ (0 ≤ f) from z1]
def rowB (id : Int) (a b c : ByteArray) (n : Int) (d : ByteArray) (ta f l : Int) (ak : Bool) (y : ByteArray) : Bool :=
  !(decide (id < 1)) && (!(decide (n < 1)) && (!(decide (ta < 1)) && (!(decide (ta > 1099511627776)) && (timesB f l && ((if ak = true then whoB y else decide (y.toList = [])) && evB a b c n d)))))
theorem bcheck_ev (id : Int) (a b c : ByteArray) (n : Int) (d : ByteArray) (ta f l : Int) (ak : Bool) (y : ByteArray) (ha : a.size ≤ 1073741824) (hb : b.size ≤ 1073741824) (hc : c.size ≤ 1073741824) (hd : d.size ≤ 1073741824) (hy : y.size ≤ 1073741824) :
    Ev (fun k => board_Check.f k id a b c n d ta f l ak y) (if rowB id a b c n d ta f l ak y = true then 0 else 4) := by
  obtain ⟨K1, h1⟩ := ncheck_ev a b c n d ha hb hc hd
  obtain ⟨K2, h2⟩ := who_ev y hy
  refine ev_succ (K1 + K2) fun k hk => ?_
  unfold board_Check.f
  refine Eq.trans (times_f f l (fun T => board_Check.j0 (k + 1) T id a b c n d ta f l ak y)) ?_
  simp only [board_Check.j0, h1 k (by omega), h2 k (by omega), Option.bind_some, rowB]
  by_cases r1 : id < 1
  · cases ak <;> rcases Bool.eq_false_or_eq_true (whoB y) with p2 | p2 <;> simp [r1, p2]
  by_cases r2 : n < 1
  · cases ak <;> rcases Bool.eq_false_or_eq_true (whoB y) with p2 | p2 <;> simp [r1, r2, p2]
  by_cases r3 : ta < 1
  · cases ak <;> rcases Bool.eq_false_or_eq_true (whoB y) with p2 | p2 <;> simp [r1, r2, r3, p2]
  by_cases r4 : ta > 1099511627776
  · cases ak <;> rcases Bool.eq_false_or_eq_true (whoB y) with p2 | p2 <;> simp [r1, r2, r3, r4, p2]
  cases ak <;> rcases Bool.eq_false_or_eq_true (whoB y) with p2 | p2 <;> rcases Bool.eq_false_or_eq_true (evB a b c n d) with p1 | p1 <;> rcases Bool.eq_false_or_eq_true (timesB f l) with p4 | p4 <;> by_cases p3 : y.toList = [] <;> simp [r1, r2, r3, r4, p1, p2, p3, p4]
def tkB (q w id : Int) (a b c : ByteArray) (n : Int) (d : ByteArray) (ta f l : Int) (ak : Bool) (y : ByteArray) : Bool :=
  !(decide (q < 1)) && (!(decide (q > 1152921504606846976)) && (!(decide (w < 1)) && (!(decide (w > 5)) && rowB id a b c n d ta f l ak y)))
theorem tcheck_ev (q w id : Int) (a b c : ByteArray) (n : Int) (d : ByteArray) (ta f l : Int) (ak : Bool) (y : ByteArray) (ha : a.size ≤ 1073741824) (hb : b.size ≤ 1073741824) (hc : c.size ≤ 1073741824) (hd : d.size ≤ 1073741824) (hy : y.size ≤ 1073741824) :
    Ev (fun k => ticket_Check.f k q w id a b c n d ta f l ak y) (if tkB q w id a b c n d ta f l ak y = true then 0 else 230) := by
  obtain ⟨K1, h1⟩ := bcheck_ev id a b c n d ta f l ak y ha hb hc hd hy
  refine ⟨K1, fun k hk => ?_⟩
  simp only [ticket_Check.f, h1 k hk, Option.bind_some, tkB]
  by_cases r1 : q < 1
  · simp [r1]
  by_cases r2 : q > 1152921504606846976
  · simp [r1, r2]
  by_cases r3 : w < 1
  · simp [r1, r2, r3]
  by_cases r4 : w > 5
  · simp [r1, r2, r3, r4]
  rcases Bool.eq_false_or_eq_true (rowB id a b c n d ta f l ak y) with p1 | p1 <;> simp [r1, r2, r3, r4, p1]
end Go.Proofs.YtipenplplmdclaaDoor.Tkt
end
section
namespace Go.Proofs.YtipenplplmdclaaDoor.OctF
open Go Go.RowKit Go.Proofs.YtipenplplmdclaaDoor.Px Go.Proofs.YtipenplplmdclaaDoorW.PrintWords Go.Proofs.YtipenplplmdclaaDoor.Str
def hi (n : Nat) : List UInt8 := if n = 0 then [] else hi (n / 128) ++ [UInt8.ofNat (n % 128 + 128)]
termination_by n
decreasing_by omega
def grp (n : Nat) : List UInt8 := hi (n / 128) ++ [UInt8.ofNat (n % 128)]
theorem hi_zero : hi 0 = [] := by rw [hi]; rfl
theorem hi_pos {n : Nat} (h : n ≠ 0) : hi n = hi (n / 128) ++ [UInt8.ofNat (n % 128 + 128)] := by
  rw [hi, if_neg h]
theorem toNat_ofNat {n : Nat} (h : n < 256) : (UInt8.ofNat n).toNat = n := by rw [UInt8.toNat_ofNat']; omega
theorem go_hi (f : Nat) : ∀ (n : Nat) (acc : List Int), n < 128 ^ f → (Oct.go f (n : Int) acc).map (fun n => UInt8.ofNat n.toNat) = hi n ++ acc.map (fun n => UInt8.ofNat n.toNat) := by
  induction f with
  | zero =>
    intro n acc h
    obtain rfl : n = 0 := by simpa using h
    rw [hi_zero]
    rfl
  | succ f ih =>
    intro n acc h
    by_cases h0 : n = 0
    · subst h0
      rw [show ((0 : Nat) : Int) = 0 from rfl, Oct.go_zero, hi_zero]
      rfl
    · rw [Oct.go_pos _ _ _ (by omega), show (n : Int) / 128 = ((n / 128 : Nat) : Int) by omega, ih (n / 128) _ (by rw [Nat.pow_succ] at h; omega), hi_pos h0, List.map_cons, List.append_assoc]
      congr 1
      rw [Oct.gB_eq]
      show _ = UInt8.ofNat (n % 128 + 128) :: _
      congr 2
theorem groups_ok (n : Nat) (h : n < 9223372036854775808) : octet_Groups.f (n : Int) = some (ofL (grp n), 0) := by
  unfold octet_Groups.f
  rw [if_neg (by omega), if_pos (by omega)]
  congr 2
  apply ext
  rw [nums_L, ofL_L]
  unfold Oct.groupsI
  rw [show (n : Int) / 128 = ((n / 128 : Nat) : Int) by omega, go_hi 8 (n / 128) _ (by omega)]
  unfold grp
  congr 1
theorem hi_length (d : Nat) : ∀ n, n < 128 ^ d → (hi n).length ≤ d := by
  induction d with
  | zero => intro n h; obtain rfl : n = 0 := by simpa using h
            rw [hi_zero]; simp
  | succ d ih =>
    intro n h
    by_cases h0 : n = 0
    · subst h0; rw [hi_zero]; simp
    · rw [hi_pos h0, List.length_append]
      have := ih (n / 128) (by rw [Nat.pow_succ] at h; omega)
      simp
      omega
theorem grp_length (n : Nat) (h : n < 9223372036854775808) : 1 ≤ (grp n).length ∧ (grp n).length ≤ 9 := by
  unfold grp
  have := hi_length 8 (n / 128) (by omega)
  simp
  omega
theorem text_ok (s : ByteArray) (h : s.size ≤ 1073741824) : octet_Text.f s = some (ofL (grp s.size ++ s.data.toList)) := by
  unfold octet_Text.f
  rw [groups_ok s.size (by omega)]
  simp only [Option.bind_some]
  have := grp_length s.size (by omega)
  rw [ofL_size, if_pos (by omega)]
  congr 1
def pg (most : Int) : Nat → Nat → List UInt8 → Nat → Int × Int × Int
  | 0, _, _, _ => (0, 0, 3)
  | _ + 1, _, [], _ => (0, 0, 10)
  | f + 1, n, b :: r, i => if i = 0 ∧ b.toNat = 128 then (0, 0, 3) else if ((n * 128 + b.toNat % 128 : Nat) : Int) > most then (0, 0, 2) else if b.toNat < 128 then (((n * 128 + b.toNat % 128 : Nat) : Int), ((i + 1 : Nat) : Int), 0) else pg most f (n * 128 + b.toNat % 128) r (i + 1)
theorem andNot_u8 : ∀ b : Fin 256, Go.bits .andNot .u8 (b.val : Int) 128 = ((b.val % 128 : Nat) : Int) := by decide +kernel
theorem join7 (n b : Nat) (hn : n < 72057594037927936) (hb : b < 256) : Go.bits .or .i64 (wrap64 ((n : Int) * 128)) (wrap64 (Go.bits .andNot .u8 (b : Int) 128)) = ((n * 128 + b % 128 : Nat) : Int) := by
  have h := andNot_u8 ⟨b, hb⟩
  simp only at h
  rw [h, wrap64_id (by omega) (by omega), wrap64_id (by omega) (by omega)]
  rw [bits_join .i64 63 (by decide) (fun n h0 h1 => by rw [IntKind.wrap_i64]; omega) 7 ((n : Int) * 128) ((b % 128 : Nat) : Int) (by omega) (by omega) (by omega) (by omega) (by omega) (by omega)]
  omega
theorem groups_l0 (s : ByteArray) (most : Int) (d : Nat) : ∀ (k i n : Nat), i + d = 9 → i ≤ s.size → n < 128 ^ i → 2 * d + 1 ≤ k → octet_groups.l0 k s most (n : Int) (i : Int) = some (pg most d n (s.data.toList.drop i) i) := by
  induction d with
  | zero =>
    intro k i n hi hle hn hk
    obtain ⟨k, rfl⟩ : ∃ m, k = m + 1 := ⟨k - 1, by omega⟩
    simp only [octet_groups.l0]
    rw [if_neg (by omega)]
    rfl
  | succ d ih =>
    intro k i n hi hle hn hk
    obtain ⟨k, rfl⟩ : ∃ m, k = m + 2 := ⟨k - 2, by omega⟩
    have hn8 : n < 72057594037927936 := Nat.lt_of_lt_of_le hn (Nat.le_trans (Nat.pow_le_pow_right (by decide) (show i ≤ 8 by omega)) (by decide))
    simp only [octet_groups.l0]
    rw [if_pos (by omega)]
    by_cases he : i = s.size
    · rw [if_pos (by omega), List.drop_of_length_le (by simp; omega)]
      rfl
    · have hlt : i < s.size := by omega
      have hd : s.data.toList.drop i = s.data.toList[i]'(by simpa using hlt) :: s.data.toList.drop (i + 1) := List.drop_eq_getElem_cons (by simpa using hlt)
      have hb : bt s (i : Int) = ((s.data.toList[i]'(by simpa using hlt)).toNat : Int) := by
        rw [bt_L hlt]
        simp [List.getD, hlt]
      generalize s.data.toList[i]'(by simpa using hlt) = b at hd hb
      have hbl := b.toNat_lt
      rw [if_neg (by omega), if_pos (by omega), if_pos (by omega), hd, hb, join7 n b.toNat hn8 (by omega), wrap64_id (by omega) (by omega)]
      have hn' : n * 128 + b.toNat % 128 < 128 ^ (i + 1) := by rw [Nat.pow_succ]; omega
      have hj : ∀ q : Bool, q = decide (i = 0 ∧ b.toNat = 128) → octet_groups.j1 (k + 1) s most ((n * 128 + b.toNat % 128 : Nat) : Int) ((i : Int) + 1) (b.toNat : Int) q = some (pg most (d + 1) n (b :: s.data.toList.drop (i + 1)) i) := by
        intro q hq
        subst hq
        simp only [octet_groups.j1, pg, decide_eq_true_eq]
        by_cases c1 : i = 0 ∧ b.toNat = 128
        · rw [if_pos c1, if_pos c1]
        · rw [if_neg c1, if_neg c1]
          by_cases c2 : ((n * 128 + b.toNat % 128 : Nat) : Int) > most
          · rw [if_pos c2, if_pos c2]
          · rw [if_neg c2, if_neg c2]
            by_cases c3 : b.toNat < 128
            · rw [if_pos (by omega), if_pos c3]
              rfl
            · rw [if_neg (by omega), if_neg c3]
              exact ih k (i + 1) _ (by omega) (by omega) hn' (by omega)
      by_cases h0 : i = 0
      · rw [if_pos (by omega)]
        refine hj _ ?_
        by_cases h128 : b.toNat = 128
        · rw [decide_eq_true ⟨h0, h128⟩, h128]
          decide
        · rw [decide_eq_false (fun z => h128 z.2), beq_eq_false_iff_ne]
          omega
      · rw [if_neg (by omega)]
        exact hj _ (decide_eq_false (fun z => h0 z.1)).symm
def rdG (most : Int) (l : List UInt8) : Int × Int × Int := pg most 9 0 l 0
theorem groups_read (s : ByteArray) (most : Int) (k : Nat) (hk : 19 ≤ k) : octet_groups.f k s most = some (rdG most s.data.toList) := by
  unfold octet_groups.f
  have := groups_l0 s most 9 k 0 0 rfl (Nat.zero_le _) (by decide) (by omega)
  simpa [rdG] using this
theorem pg_long (most : Int) (f : Nat) : ∀ (n : Nat) (l : List UInt8) (i : Nat), 0 ≤ (pg most f n l i).2.1 ∧ (pg most f n l i).2.1 ≤ ((i + l.length : Nat) : Int) ∧ ((pg most f n l i).2.2 ≠ 0 → (pg most f n l i).1 = 0 ∧ (pg most f n l i).2.1 = 0) ∧ 0 ≤ (pg most f n l i).1 ∧ 0 ≤ (pg most f n l i).2.2 := by
  induction f with
  | zero => intro n l i; simp [pg]; omega
  | succ f ih =>
    intro n l i
    cases l with
    | nil => simp [pg]
    | cons b r =>
      simp only [pg]
      split
      · simp; omega
      · split
        · simp; omega
        · split
          · simp only [List.length_cons]
            refine ⟨by omega, by omega, fun h => absurd rfl h, by omega, by omega⟩
          · have := ih (n * 128 + b.toNat % 128) r (i + 1)
            simp only [List.length_cons]
            refine ⟨this.1, by omega, this.2.2.1, this.2.2.2⟩
theorem rdG_long (most : Int) (l : List UInt8) : 0 ≤ (rdG most l).2.1 ∧ (rdG most l).2.1 ≤ (l.length : Int) ∧ ((rdG most l).2.2 ≠ 0 → (rdG most l).1 = 0 ∧ (rdG most l).2.1 = 0) ∧ 0 ≤ (rdG most l).1 ∧ 0 ≤ (rdG most l).2.2 := by
  have := pg_long most 9 0 l 0
  simpa [rdG] using this
theorem rdG_most (most : Int) (f : Nat) : ∀ (n : Nat) (l : List UInt8) (i : Nat), 0 ≤ most → n < 128 ^ (9 - f) → f ≤ 9 → (pg most f n l i).1 ≤ most ∧ (pg most f n l i).1 < 9223372036854775808 := by
  induction f with
  | zero => intro n l i h _ _; simp [pg]; omega
  | succ f ih =>
    intro n l i h hn hf
    have hn' : n * 128 + 127 < 9223372036854775808 := by
      have : 128 ^ (9 - (f + 1)) * 128 ≤ 9223372036854775808 := by
        rw [← Nat.pow_succ]
        exact Nat.le_trans (Nat.pow_le_pow_right (by decide) (show 9 - (f + 1) + 1 ≤ 9 by omega)) (by decide)
      omega
    cases l with
    | nil => simp [pg]; omega
    | cons b r =>
      simp only [pg]
      split
      · simp; omega
      · split
        · simp; omega
        · split
          · simp only; omega
          · refine ih _ r _ h ?_ (by omega)
            rw [show 9 - f = 9 - (f + 1) + 1 by omega, Nat.pow_succ]
            omega
theorem rGroups (s : ByteArray) (c most : Int) (k : Nat) (hk : 19 ≤ k) :
    oR_Groups.f k s c most = some (if c = 0 then ((rdG most s.data.toList).1, ofL (s.data.toList.drop (rdG most s.data.toList).2.1.toNat), (rdG most s.data.toList).2.2) else (0, s, c)) := by
  unfold oR_Groups.f
  by_cases hc : c = 0
  · rw [if_pos hc, if_pos hc, groups_read s most k hk]
    simp only [Option.bind_some]
    unfold oR_Refuse.f
    rw [if_pos hc]
    simp only [Option.bind_some]
    have h := rdG_long most s.data.toList
    rw [if_pos h.1, if_pos (by have := h.2.1; simpa using this)]
    congr 3
    apply ext
    rw [post_L, ofL_L]
  · rw [if_neg hc, if_neg hc]
theorem rBytes (s : ByteArray) (c n : Int) : oR_Bytes.f s c n = some (if c = 0 then (if n < 0 then (⟨#[]⟩, s, 1) else if n > (s.size : Int) then (⟨#[]⟩, s, 10) else (ofL (s.data.toList.take n.toNat), ofL (s.data.toList.drop n.toNat), c)) else (⟨#[]⟩, s, c)) := by
  unfold oR_Bytes.f oR_Refuse.f
  by_cases hc : c = 0
  · simp only [if_pos hc, Option.bind_some]
    by_cases h1 : n < 0
    · rw [if_pos h1, if_pos h1]
    · rw [if_neg h1, if_neg h1]
      by_cases h2 : n > (s.size : Int)
      · rw [if_pos h2, if_pos h2]
      · rw [if_neg h2, if_neg h2, if_pos (by omega), if_pos (by omega)]
        congr 2
        · apply ext
          rw [pre_L, ofL_L]
        · congr 1
          apply ext
          rw [post_L, ofL_L]
  · rw [if_neg hc, if_neg hc]
end Go.Proofs.YtipenplplmdclaaDoor.OctF
end
section
namespace Go.Proofs.YtipenplplmdclaaDoor.OctF
open Go Go.RowKit Go.Proofs.YtipenplplmdclaaDoor.Px Go.Proofs.YtipenplplmdclaaDoorW.PrintWords Go.Proofs.YtipenplplmdclaaDoor.Str
def val (l : List UInt8) : Nat := l.foldl (fun n b => n * 256 + b.toNat) 0
theorem val_snoc (l : List UInt8) (b : UInt8) : val (l ++ [b]) = val l * 256 + b.toNat := by simp [val, List.foldl_append]
theorem snoc_ind {α : Type} {Q : List α → Prop} (h0 : Q []) (h1 : ∀ l b, Q l → Q (l ++ [b])) (l : List α) : Q l := by
  rw [← List.reverse_reverse l]
  induction l.reverse with
  | nil => exact h0
  | cons b r ih => rw [List.reverse_cons]; exact h1 _ _ ih
theorem val_lt (l : List UInt8) : val l < 256 ^ l.length := by
  refine snoc_ind (Q := fun l => val l < 256 ^ l.length) (by decide) (fun l b ih => ?_) l
  rw [val_snoc, List.length_append, List.length_singleton, Nat.pow_succ]
  have := b.toNat_lt
  omega
end Go.Proofs.YtipenplplmdclaaDoor.OctF
end
section
namespace Go.Proofs.YtipenplplmdclaaDoor.CrcB
abbrev W := BitVec 32
def poly : W := 0xEDB88320#32
def A (c : W) : W := (c >>> 1) ^^^ (if c.getLsbD 0 then poly else 0#32)
def An : Nat → W → W
  | 0, c => c
  | n + 1, c => An n (A c)
def high : W := 0x80000000#32
theorem An_zero_arg (n : Nat) : An n 0#32 = 0#32 := by
  induction n with
  | zero => rfl
  | succ n ih => unfold An; rw [show A 0#32 = 0#32 by decide]; exact ih
theorem An_add (m n : Nat) (c : W) : An (m + n) c = An m (An n c) := by
  induction n generalizing c with
  | zero => rfl
  | succ n ih => rw [← Nat.add_assoc]; show An (m + n) (A c) = _; rw [ih]; rfl
theorem A_xor (x y : W) : A (x ^^^ y) = A x ^^^ A y := by
  unfold A
  rw [BitVec.ushiftRight_xor_distrib, BitVec.getLsbD_xor]
  cases x.getLsbD 0 <;> cases y.getLsbD 0
  · simp
  · simp only [Bool.false_xor, if_true, Bool.false_eq_true, if_false, BitVec.xor_zero]
    ac_rfl
  · simp only [Bool.xor_false, if_true, Bool.false_eq_true, if_false, BitVec.xor_zero]
    ac_rfl
  · simp only [Bool.xor_self, if_true, Bool.false_eq_true, if_false, BitVec.xor_zero]
    rw [show x >>> 1 ^^^ poly ^^^ (y >>> 1 ^^^ poly) = x >>> 1 ^^^ y >>> 1 ^^^ (poly ^^^ poly) by ac_rfl, BitVec.xor_self, BitVec.xor_zero]
theorem An_xor (n : Nat) (x y : W) : An n (x ^^^ y) = An n x ^^^ An n y := by
  induction n generalizing x y with
  | zero => rfl
  | succ n ih => show An n (A _) = _; rw [A_xor, ih]; rfl
theorem A_zero {x : W} (h : A x = 0#32) : x = 0#32 := by
  have h31 : (A x).getLsbD 31 = false := by rw [h]; simp
  have hl : x.getLsbD 0 = false := by
    unfold A at h31
    rw [BitVec.getLsbD_xor] at h31
    cases hx : x.getLsbD 0 with
    | false => rfl
    | true =>
      rw [hx] at h31
      simp [poly] at h31
  unfold A at h
  rw [hl] at h
  simp at h
  apply BitVec.eq_of_getLsbD_eq
  intro i hi
  cases i with
  | zero => rw [hl]; simp
  | succ i =>
    have := congrArg (fun z => BitVec.getLsbD z i) h
    simp only [BitVec.getLsbD_ushiftRight] at this
    rw [Nat.add_comm 1 i] at this
    rw [this]
    simp
theorem An_zero {n : Nat} {x : W} (h : An n x = 0#32) : x = 0#32 := by
  induction n generalizing x with
  | zero => exact h
  | succ n ih => exact A_zero (ih h)
theorem xor_eq_zero {x y : W} (h : x ^^^ y = 0#32) : x = y := by
  have : x ^^^ y ^^^ y = 0#32 ^^^ y := by rw [h]
  rw [BitVec.xor_assoc, BitVec.xor_self, BitVec.xor_zero, BitVec.zero_xor] at this
  exact this
theorem An_inj {n : Nat} {x y : W} (h : An n x = An n y) : x = y := by
  apply xor_eq_zero
  apply An_zero (n := n)
  rw [An_xor, h, BitVec.xor_self]
theorem A_even {x : W} (h : x.getLsbD 0 = false) : A x = x >>> 1 := by unfold A; rw [h]; simp
theorem An_low (n : Nat) : ∀ x : W, (∀ i, i < n → x.getLsbD i = false) → An n x = x >>> n := by
  induction n with
  | zero => intro x _; simp [An]
  | succ n ih =>
    intro x h
    show An n (A x) = _
    rw [A_even (h 0 (by omega)), ih _ (fun i hi => by rw [BitVec.getLsbD_ushiftRight]; exact h (1 + i) (by omega)), ← BitVec.shiftRight_add]
    congr 1
    omega
theorem split_low (n : Nat) (c : W) : c = ((c >>> n) <<< n) ^^^ (c &&& BitVec.ofNat 32 (2 ^ n - 1)) := by
  apply BitVec.eq_of_getLsbD_eq
  intro i hi
  simp only [BitVec.getLsbD_xor, BitVec.getLsbD_shiftLeft, BitVec.getLsbD_ushiftRight, BitVec.getLsbD_and, BitVec.getLsbD_ofNat, Nat.testBit_two_pow_sub_one]
  by_cases h : i < n
  · simp [h, hi]
  · simp [h, hi, show n + (i - n) = i by omega]
theorem An_split (n : Nat) (c : W) : An n c = (c >>> n) ^^^ An n (c &&& BitVec.ofNat 32 (2 ^ n - 1)) := by
  have e := congrArg (An n) (split_low n c)
  rw [An_xor] at e
  rw [e]
  congr 1
  rw [An_low n _ (fun i hi => by simp [hi])]
  apply BitVec.eq_of_getLsbD_eq
  intro i hi
  simp only [BitVec.getLsbD_ushiftRight, BitVec.getLsbD_shiftLeft]
  by_cases h : n + i < 32
  · simp [h]
  · simp [h, BitVec.getLsbD_of_ge c (n + i) (by omega)]
def halfB : Nat → W := fun i => BitVec.ofNat 32 ([0, 498536548, 997073096, 651767980, 1994146192, 1802195444, 1303535960, 1342533948, 3988292384, 4027552580, 3604390888, 3412177804, 2607071920, 2262029012, 2685067896, 3183342108].getD i 0)
theorem half_An : ∀ i : Fin 16, halfB i.val = An 4 (BitVec.ofNat 32 i.val) := by decide
theorem An4 (c : W) : An 4 c = (c >>> 4) ^^^ halfB (c.toNat % 16) := by
  have h := half_An ⟨c.toNat % 16, Nat.mod_lt _ (by decide)⟩
  simp only at h
  rw [h, An_split]
  congr 2
  apply BitVec.eq_of_toNat_eq
  rw [BitVec.toNat_and, BitVec.toNat_ofNat, BitVec.toNat_ofNat]
  show c.toNat &&& (2 ^ 4 - 1) = _
  rw [Nat.and_two_pow_sub_one_eq_mod]
  omega
def step (c : W) (b : W) : W := An 8 (c ^^^ b)
def byte (b : UInt8) : W := BitVec.ofNat 32 b.toNat
def run (c : W) (l : List UInt8) : W := l.foldl (fun c b => step c (byte b)) c
theorem run_nil (c : W) : run c [] = c := rfl
theorem run_cons (c : W) (b : UInt8) (l : List UInt8) : run c (b :: l) = run (step c (byte b)) l := rfl
theorem run_append (c : W) (l m : List UInt8) : run c (l ++ m) = run (run c l) m := by simp [run, List.foldl_append]
theorem run_xor (c d : W) (l : List UInt8) : run (c ^^^ d) l = run c l ^^^ An (8 * l.length) d := by
  induction l generalizing c d with
  | nil => rfl
  | cons b l ih =>
    rw [run_cons, run_cons, List.length_cons]
    have : step (c ^^^ d) (byte b) = step c (byte b) ^^^ An 8 d := by
      unfold step
      rw [show c ^^^ d ^^^ byte b = (c ^^^ byte b) ^^^ d by rw [BitVec.xor_assoc, BitVec.xor_assoc, BitVec.xor_comm d], An_xor]
    rw [this, ih, ← An_add]
    rfl
theorem An_high : ∀ k : Fin 32, An k.val high = BitVec.ofNat 32 (2 ^ (31 - k.val)) := by decide
def bit (j : Nat) : W := BitVec.ofNat 32 (2 ^ j)
theorem bit_An {j : Nat} (h : j < 32) : bit j = An (31 - j) high := by
  have := An_high ⟨31 - j, by omega⟩
  simp only at this
  rw [this, show 31 - (31 - j) = j by omega]
  rfl
def le4 (x : W) : List UInt8 := [UInt8.ofNat x.toNat, UInt8.ofNat (x.toNat / 256), UInt8.ofNat (x.toNat / 65536), UInt8.ofNat (x.toNat / 16777216)]
theorem byte_ofNat (n : Nat) : byte (UInt8.ofNat n) = BitVec.ofNat 32 (n % 256) := by
  unfold byte
  rw [UInt8.toNat_ofNat']
theorem run_le4 (c x : W) : run c (le4 x) = An 32 (c ^^^ x) := by
  have one : ∀ d y : W, An 8 (d ^^^ y) = step d (BitVec.ofNat 32 (y.toNat % 256)) ^^^ (y >>> 8) := by
    intro d y
    unfold step
    rw [An_split 8 (d ^^^ y), An_split 8 (d ^^^ BitVec.ofNat 32 (y.toNat % 256))]
    have e1 : (d ^^^ BitVec.ofNat 32 (y.toNat % 256)) >>> 8 = d >>> 8 := by
      apply BitVec.eq_of_getLsbD_eq
      intro i hi
      rw [BitVec.getLsbD_ushiftRight, BitVec.getLsbD_ushiftRight, BitVec.getLsbD_xor, BitVec.getLsbD_ofNat]
      have : (y.toNat % 256).testBit (8 + i) = false := Nat.testBit_lt_two_pow (Nat.lt_of_lt_of_le (Nat.mod_lt _ (by decide)) (by rw [show 256 = 2 ^ 8 by rfl]; exact Nat.pow_le_pow_right (by decide) (by omega)))
      rw [this]
      simp
    have e2 : (d ^^^ BitVec.ofNat 32 (y.toNat % 256)) &&& BitVec.ofNat 32 (2 ^ 8 - 1) = (d ^^^ y) &&& BitVec.ofNat 32 (2 ^ 8 - 1) := by
      apply BitVec.eq_of_getLsbD_eq
      intro i hi
      simp only [BitVec.getLsbD_and, BitVec.getLsbD_xor, BitVec.getLsbD_ofNat, Nat.testBit_two_pow_sub_one]
      rw [show 256 = 2 ^ 8 by rfl, Nat.testBit_mod_two_pow]
      by_cases h : i < 8
      · simp [h, hi, BitVec.getLsbD]
      · simp [h]
    rw [e1, e2, BitVec.ushiftRight_xor_distrib, BitVec.xor_assoc, BitVec.xor_assoc, BitVec.xor_comm (y >>> 8)]
  have s8 : ∀ (y : W) (k : Nat), (y >>> k).toNat = y.toNat / 2 ^ k := fun y k => by rw [BitVec.toNat_ushiftRight, Nat.shiftRight_eq_div_pow]
  have z : x >>> 8 >>> 8 >>> 8 >>> 8 = 0#32 := by
    apply BitVec.eq_of_toNat_eq
    rw [s8, s8, s8, s8]
    have := x.isLt
    simp only [BitVec.toNat_ofNat]
    omega
  unfold le4
  rw [run_cons, run_cons, run_cons, run_cons, run_nil, byte_ofNat, byte_ofNat, byte_ofNat, byte_ofNat]
  show _ = An (8 + (8 + (8 + 8))) (c ^^^ x)
  rw [An_add, An_add, An_add, one c x, one _ (x >>> 8), one _ (x >>> 8 >>> 8), one _ (x >>> 8 >>> 8 >>> 8), z, BitVec.xor_zero]
  rw [s8, s8, s8, s8, s8, s8]
  simp only [Nat.div_div_eq_div_mul]
def all : W := 0xFFFFFFFF#32
def residue : W := An 32 all
theorem tag_residue (l : List UInt8) (x : W) : run all (l ++ le4 x) = residue ↔ x = run all l ^^^ all := by
  rw [run_append, run_le4]
  constructor
  · intro h
    have e : x = run all l ^^^ (run all l ^^^ x) := by rw [← BitVec.xor_assoc, BitVec.xor_self, BitVec.zero_xor]
    rw [An_inj h] at e
    exact e
  · intro h
    rw [h, ← BitVec.xor_assoc, BitVec.xor_self, BitVec.zero_xor]
    rfl
theorem run_flip (c : W) (l : List UInt8) (i : Nat) (b b' : UInt8) (j : Nat) (hj : j < 8) (hi : i < l.length) (hb : l[i]? = some b) (hx : byte b' = byte b ^^^ bit j) :
    run c (l.set i b') = run c l ^^^ An (8 * l.length + 31 - (8 * i + j)) high := by
  have hl : l = l.take i ++ b :: l.drop (i + 1) := by
    rw [List.getElem?_eq_getElem hi] at hb
    injection hb with hb
    rw [← hb]
    simp
  have hlen : (l.take i).length = i := by rw [List.length_take]; omega
  have hs : l.set i b' = l.take i ++ b' :: l.drop (i + 1) := by
    rw [List.set_eq_take_append_cons_drop, if_pos hi]
  rw [hs]
  conv => rhs; rw [hl]
  rw [run_append, run_append, run_cons, run_cons]
  have : step (run c (l.take i)) (byte b') = step (run c (l.take i)) (byte b) ^^^ An 8 (bit j) := by
    unfold step
    rw [hx, ← BitVec.xor_assoc, An_xor]
  rw [this, run_xor, bit_An (by omega), ← An_add, ← An_add]
  congr 2
  simp only [List.length_drop, List.length_append, List.length_take, List.length_cons]
  omega
end Go.Proofs.YtipenplplmdclaaDoor.CrcB
end
section
namespace Go.Proofs.YtipenplplmdclaaDoor.CrcB
def T : Nat → W → W → W
  | 0, _, _ => 0#32
  | n + 1, a, b => T n a b ^^^ (if a.getLsbD (31 - n) then An n b else 0#32)
theorem bit_get (j i : Nat) (hj : j < 32) : (bit j).getLsbD i = decide (i = j) := by
  unfold bit
  rw [BitVec.getLsbD_ofNat, Nat.testBit_two_pow]
  by_cases h : i = j
  · subst h; simp [hj]
  · simp [h, Ne.symm h]
open Go
def B (x : Int) : W := BitVec.ofInt 32 x
def I (b : W) : Int := (b.toNat : Int)
theorem I_range (b : W) : 0 ≤ I b ∧ I b < 4294967296 := by
  unfold I
  have := b.isLt
  omega
theorem B_I (b : W) : B (I b) = b := by
  unfold B I
  rw [BitVec.ofInt_natCast]
  simp
theorem I_B {x : Int} (h0 : 0 ≤ x) (h1 : x < 4294967296) : I (B x) = x := by
  unfold B I
  rw [BitVec.toNat_ofInt]
  omega
theorem I_inj {a b : W} (h : I a = I b) : a = b := by rw [← B_I a, h, B_I]
theorem I_eq {a b : W} : I a = I b ↔ a = b := ⟨I_inj, fun h => by rw [h]⟩
theorem wrapI (b : W) : IntKind.u32.wrap (b.toNat : Int) = I b := by
  rw [IntKind.wrap_u32]
  have := b.isLt
  unfold I
  omega
theorem xor_I (x y : Int) : Go.bits .xor .u32 x y = I (B x ^^^ B y) := wrapI _
theorem and_I (x y : Int) : Go.bits .and .u32 x y = I (B x &&& B y) := wrapI _
theorem xor_II (a b : W) : Go.bits .xor .u32 (I a) (I b) = I (a ^^^ b) := by rw [xor_I, B_I, B_I]
theorem I_16 (c : W) : I c / (16 : Int) = I (c >>> 4) := by
  unfold I
  rw [BitVec.toNat_ushiftRight, Nat.shiftRight_eq_div_pow]
  omega
theorem I_all : (4294967295 : Int) = I all := by decide
theorem half_I : ∀ i : Fin 16, Crc.halfL.getD i.val 0 = I (halfB i.val) := by decide
theorem nib_I (c : W) : Crc.nib (I c) = I (An 4 c) := by
  unfold Crc.nib
  rw [Crc.and15, I_16]
  have h := half_I ⟨c.toNat % 16, Nat.mod_lt _ (by decide)⟩
  simp only at h
  have e : (I c % 16).toNat = c.toNat % 16 := by unfold I; omega
  rw [e, h, xor_II, An4]
theorem step_I (c : W) (b : UInt8) : Crc.stepI (I c) (b.toNat : Int) = I (step c (byte b)) := by
  unfold Crc.stepI
  have e : ((b.toNat : Nat) : Int) = I (byte b) := by
    unfold I byte
    have := b.toNat_lt
    rw [BitVec.toNat_ofNat]
    omega
  rw [e, xor_II, nib_I, nib_I, ← An_add]
  rfl
theorem behind_I (c : W) (l : List UInt8) : Crc.behindI (I c) l = I (run c l) := by
  induction l generalizing c with
  | nil => rfl
  | cons b l ih =>
    show Crc.behindI (Crc.stepI (I c) (b.toNat : Int)) l = _
    rw [step_I, ih]
    rfl
theorem lsb_I (c : W) : (Go.bits .and .u32 (I c) 1 = 1) ↔ c.getLsbD 0 = true := by
  have h1 : (1 : Int) = I 1#32 := by decide
  rw [h1, and_I, B_I, B_I, I_eq]
  constructor
  · intro h
    have := congrArg (fun z => BitVec.getLsbD z 0) h
    simpa using this
  · intro h
    apply BitVec.eq_of_getLsbD_eq
    intro i hi
    rw [BitVec.getLsbD_and]
    cases i with
    | zero => simp [h]
    | succ i => simp
end Go.Proofs.YtipenplplmdclaaDoor.CrcB
end
section
namespace Go.Proofs.YtipenplplmdclaaDoor.CrcB
open Go Go.RowKit Go.Proofs.YtipenplplmdclaaDoor.Px Go.Proofs.YtipenplplmdclaaDoorW.PrintWords Go.Proofs.YtipenplplmdclaaDoor.Str
def sumL (l : List UInt8) : W := run all l ^^^ all
theorem behind_f (c : W) (s : ByteArray) (h : s.size ≤ 140737488355328) : crc_behind.f (I c) s = some (I (run c s.data.toList)) := by
  unfold crc_behind.f
  rw [if_pos h, behind_I]
theorem sum_f (s : ByteArray) (h : s.size ≤ 140737488355328) : crc_Sum.f s = some (I (sumL s.data.toList)) := by
  unfold crc_Sum.f
  rw [I_all, behind_f _ _ h]
  simp only [Option.bind_some]
  rw [xor_II, BitVec.xor_comm]
  have := I_range (run all s.data.toList ^^^ all)
  rw [wrap64_id (by omega) (by omega)]
  rfl
def tagL (l : List UInt8) : List UInt8 := l ++ le4 (sumL l)
theorem le_I (c : W) : (crc_Tag.le 4 (I c)).map (fun n => UInt8.ofNat n.toNat) = le4 c := by
  simp only [crc_Tag.le, List.range, List.range.loop, List.map_cons, List.map_nil, crc_Tag.sh, le4, I]
  have h := c.isLt
  have e : ∀ (x : Int) (n : Nat), x = ((n % 256 : Nat) : Int) → UInt8.ofNat x.toNat = UInt8.ofNat n := fun x n hx => by
    apply UInt8.toNat_inj.1
    rw [hx, UInt8.toNat_ofNat', UInt8.toNat_ofNat', Int.toNat_natCast]
    omega
  rw [e _ c.toNat (by omega), e _ (c.toNat / 256) (by omega), e _ (c.toNat / 65536) (by omega), e _ (c.toNat / 16777216) (by omega)]
theorem tag_f (s : ByteArray) (h : s.size ≤ 1073741824) : crc_Tag.f s = some (ofL (tagL s.data.toList)) := by
  unfold crc_Tag.f
  rw [if_pos h, sum_f _ (by omega)]
  simp only [Option.bind_some, Option.some.injEq]
  apply ext
  rw [nums_L, List.map_append, le_I, ofL_L]
  unfold BR.ints
  rw [map_u8]
  rfl
theorem tagL_length (l : List UInt8) : (tagL l).length = l.length + 4 := by simp [tagL, le4]
theorem le4_inj {x y : W} (h : le4 x = le4 y) : x = y := by
  have h1 := run_le4 0#32 x
  rw [h, run_le4, BitVec.zero_xor, BitVec.zero_xor] at h1
  exact (An_inj h1).symm
theorem le4_all : ∀ l : List UInt8, l.length = 4 → ∃ x : W, l = le4 x := by
  intro l hl
  match l, hl with
  | [a, b, c, d], _ =>
    have ha := a.toNat_lt
    have hb := b.toNat_lt
    have hc := c.toNat_lt
    have hd := d.toNat_lt
    refine ⟨BitVec.ofNat 32 (a.toNat + 256 * b.toNat + 65536 * c.toNat + 16777216 * d.toNat), ?_⟩
    unfold le4
    rw [BitVec.toNat_ofNat]
    have e : ∀ (u : UInt8) (n : Nat), n % 256 = u.toNat → u = UInt8.ofNat n := fun u n h => by
      apply UInt8.toNat_inj.1
      rw [UInt8.toNat_ofNat', ← h]
    rw [← e a _ (by omega), ← e b _ (by omega), ← e c _ (by omega), ← e d _ (by omega)]
theorem owns_iff (l : List UInt8) (h : 4 ≤ l.length) : tagL (l.take (l.length - 4)) = l ↔ run all l = residue := by
  obtain ⟨x, hx⟩ := le4_all (l.drop (l.length - 4)) (by simp; omega)
  have hl : l = l.take (l.length - 4) ++ le4 x := by rw [← hx, List.take_append_drop]
  generalize l.take (l.length - 4) = m at hl
  subst hl
  rw [tag_residue]
  unfold tagL sumL
  constructor
  · intro h
    exact (le4_inj (List.append_cancel_left h)).symm
  · intro h
    rw [h]
theorem open_f (s : ByteArray) (h : s.size ≤ 1073741824) :
    crc_Open.f s = some (if 4 ≤ s.size ∧ run all s.data.toList = residue then (s.extract 0 (s.size - 4), true) else (⟨#[]⟩, false)) := by
  unfold crc_Open.f
  by_cases h4 : 4 ≤ s.size
  · rw [if_neg (by omega), wrap64_id (by omega) (by omega), if_pos (by omega), if_pos (by omega)]
    have e : ((s.size : Int) - 4).toNat = s.size - 4 := by omega
    rw [e, tag_f _ (by rw [size_L, pre_L, List.length_take]; omega)]
    simp only [Option.bind_some]
    have hk := owns_iff s.data.toList (by simpa using h4)
    rw [toList_L, toList_L, ofL_L, pre_L, show s.size = s.data.toList.length from size_L s]
    by_cases hr : run all s.data.toList = residue
    · rw [if_pos (hk.2 hr), if_pos ⟨by simpa using h4, hr⟩]
    · rw [if_neg (fun z => hr (hk.1 z)), if_neg (fun z => hr z.2)]
  · rw [if_pos (by omega), if_neg (fun z => h4 z.1)]
theorem run_tagL (l : List UInt8) : run all (tagL l) = residue := by
  unfold tagL
  rw [tag_residue]
  rfl
end Go.Proofs.YtipenplplmdclaaDoor.CrcB
end
section
namespace Go.Proofs.YtipenplplmdclaaDoor.Tkt
open Go Go.RowKit Go.Proofs.YtipenplplmdclaaDoor.Px Go.Proofs.YtipenplplmdclaaDoorW.PrintWords Go.Proofs.YtipenplplmdclaaDoor.Str Go.Proofs.YtipenplplmdclaaDoor.OctF Go.Proofs.YtipenplplmdclaaDoor.CrcB
set_option linter.unusedSimpArgs false
set_option linter.unusedVariables false
theorem ofL_app (x y : List UInt8) : ofL x ++ ofL y = ofL (x ++ y) := ext (by rw [app_L, ofL_L, ofL_L, ofL_L])
def gi (n : Int) : List UInt8 := grp n.toNat
theorem gi_len {n : Int} (h0 : 0 ≤ n) (h1 : n < 9223372036854775808) : (gi n).length ≤ 9 := (grp_length n.toNat (by omega)).2
theorem groups_int {n : Int} (h0 : 0 ≤ n) (h1 : n < 9223372036854775808) : octet_Groups.f n = some (ofL (gi n), 0) := by
  have := groups_ok n.toNat (by omega)
  rwa [Int.toNat_of_nonneg h0] at this
def txt (s : ByteArray) : List UInt8 := grp s.size ++ s.data.toList
theorem txt_len {s : ByteArray} (h : s.size ≤ 100000) : (txt s).length ≤ 100009 := by
  have := (grp_length s.size (by omega)).2
  have e : s.data.toList.length = s.size := by simp
  rw [txt, List.length_append, e]
  omega
theorem tgroups_l0 (l : List Int) (hl : l.length ≤ 1000000) (hx : ∀ x ∈ l, 0 ≤ x ∧ x < 9223372036854775808) (d : Nat) : ∀ (i : Nat) (acc : List UInt8), i + d = l.length → acc.length + 9 * d ≤ 100000000 → Ev (fun k => ticket_groups.l0 k (ofL acc) l (l.length : Int) (i : Int)) (ofL (acc ++ (l.drop i).flatMap gi)) := by
  induction d with
  | zero =>
    intro i acc hi _
    refine ev_succ 0 fun k _ => ?_
    simp only [ticket_groups.l0]
    rw [if_neg (by omega), List.drop_eq_nil_of_le (by omega)]
    simp
  | succ d ih =>
    intro i acc hi ha
    have hm : l.getD i 0 ∈ l := by rw [List.getD_eq_getElem?_getD, List.getElem?_eq_getElem (by omega), Option.getD_some]; exact List.getElem_mem _
    obtain ⟨h0, h1⟩ := hx _ hm
    have hg := gi_len h0 h1
    obtain ⟨K, hK⟩ := ih (i + 1) (acc ++ gi (l.getD i 0)) (by omega) (by rw [List.length_append]; omega)
    refine ev_succ K fun k hk => ?_
    simp only [ticket_groups.l0]
    have hrd : rd l (i : Int) = l.getD i 0 := by simp [rd]
    rw [if_pos (by omega), if_pos (by omega), if_pos (by omega), hrd, groups_int h0 h1, Option.bind_some]
    simp only [ofL_size]
    rw [if_pos (by omega), ofL_app, wrap64_id (by omega) (by omega)]
    have hd : l.drop i = l.getD i 0 :: l.drop (i + 1) := by rw [List.drop_eq_getElem_cons (by omega), List.getD_eq_getElem?_getD, List.getElem?_eq_getElem (by omega), Option.getD_some]
    rw [hd, List.flatMap_cons, ← List.append_assoc]
    exact hK k hk
theorem tgroups_ev (l : List Int) (hl : l.length ≤ 1000000) (hx : ∀ x ∈ l, 0 ≤ x ∧ x < 9223372036854775808) : Ev (fun k => ticket_groups.f k l) (ofL (l.flatMap gi)) := by
  have := tgroups_l0 l hl hx l.length 0 [] (by omega) (by simp; omega)
  simp only [List.nil_append, List.drop_zero] at this
  exact this
theorem otext {s : ByteArray} (h : s.size ≤ 100000) : octet_Text.f s = some (ofL (txt s)) := text_ok s (by omega)
def evL (a b c : ByteArray) (n : Int) (d : ByteArray) : List UInt8 := txt a ++ (txt b ++ (txt c ++ (txt d ++ gi n)))
theorem evB_n {a b c : ByteArray} {n : Int} {d : ByteArray} (h : evB a b c n d = true) : 0 ≤ n ∧ n ≤ 5 := by
  simp only [evB, Bool.and_eq_true, decide_eq_true_eq] at h
  exact h.2.2.2.2.2.2
theorem evL_len {a b c : ByteArray} {n : Int} {d : ByteArray} (ha : a.size ≤ 100000) (hb : b.size ≤ 100000) (hc : c.size ≤ 100000) (hd : d.size ≤ 100000) (h0 : 0 ≤ n) (h1 : n < 9223372036854775808) : (evL a b c n d).length ≤ 400045 := by
  have l1 := txt_len ha
  have l2 := txt_len hb
  have l3 := txt_len hc
  have l4 := txt_len hd
  have l5 := gi_len h0 h1
  simp only [evL, List.length_append]
  omega
theorem nenc_ev (a b c : ByteArray) (n : Int) (d : ByteArray) (ha : a.size ≤ 100000) (hb : b.size ≤ 100000) (hc : c.size ≤ 100000) (hd : d.size ≤ 100000) :
    Ev (fun k => norm_Encode.f k a b c n d) (if evB a b c n d = true then (ofL (evL a b c n d), 0) else (⟨#[]⟩, 180)) := by
  obtain ⟨K, h⟩ := ncheck_ev a b c n d (by omega) (by omega) (by omega) (by omega)
  refine ⟨K, fun k hk => ?_⟩
  simp only [norm_Encode.f, h k hk, Option.bind_some]
  rcases Bool.eq_false_or_eq_true (evB a b c n d) with p | p
  · have hn := evB_n p
    have l1 := txt_len ha
    have l2 := txt_len hb
    have l3 := txt_len hc
    have l4 := txt_len hd
    have l5 := gi_len hn.1 (by omega)
    simp only [p, if_true, groups_int hn.1 (by omega), otext ha, otext hb, otext hc, otext hd, Option.bind_some, ofL_app, ofL_size, List.length_append]
    rw [if_pos (by omega), if_pos (by omega), if_pos (by omega), if_pos (by omega)]
    simp only [evL, List.append_assoc]
  · simp [p]
def akL (ak : Bool) : List UInt8 := if ak = true then [1] else [0]
def rowL (id : Int) (a b c : ByteArray) (n : Int) (d : ByteArray) (ta f l : Int) (ak : Bool) (y : ByteArray) : List UInt8 := gi id ++ (gi ta ++ (gi f ++ (gi l ++ (akL ak ++ (txt y ++ evL a b c n d)))))
def payL (w id : Int) (a b c : ByteArray) (n : Int) (d : ByteArray) (ta f l : Int) (ak : Bool) (y : ByteArray) : List UInt8 := UInt8.ofNat w.toNat :: rowL id a b c n d ta f l ak y
theorem num_w {w : Int} (h0 : 0 ≤ w) (h1 : w < 256) : strOfNums ([w % 256] : List Int) = ofL [UInt8.ofNat w.toNat] := by
  apply ext
  rw [nums_L, ofL_L, Int.emod_eq_of_lt h0 h1]
  rfl
theorem num_0 : strOfNums ([0] : List Int) = ofL [0] := ext (by rw [nums_L, ofL_L]; rfl)
theorem num_1 : strOfNums ([1] : List Int) = ofL [1] := ext (by rw [nums_L, ofL_L]; rfl)
theorem timesB_iff {f l : Int} : timesB f l = true ↔ 0 ≤ f ∧ f ≤ 2305843009213693952 ∧ 0 ≤ l ∧ l ≤ 2305843009213693952 ∧ f ≤ l := by unfold timesB; exact decide_eq_true_iff
theorem rowB_iff {id : Int} {a b c : ByteArray} {n : Int} {d : ByteArray} {ta f l : Int} {ak : Bool} {y : ByteArray} : rowB id a b c n d ta f l ak y = true ↔
    1 ≤ id ∧ 1 ≤ n ∧ 1 ≤ ta ∧ ta ≤ 1099511627776 ∧ timesB f l = true ∧ (if ak = true then whoB y else decide (y.toList = [])) = true ∧ evB a b c n d = true := by
  unfold rowB
  simp only [Bool.and_eq_true, Bool.not_eq_true', decide_eq_false_iff_not, Int.not_lt, gt_iff_lt]
theorem tkB_iff {q w id : Int} {a b c : ByteArray} {n : Int} {d : ByteArray} {ta f l : Int} {ak : Bool} {y : ByteArray} : tkB q w id a b c n d ta f l ak y = true ↔
    1 ≤ q ∧ q ≤ 1152921504606846976 ∧ 1 ≤ w ∧ w ≤ 5 ∧ rowB id a b c n d ta f l ak y = true := by
  unfold tkB
  simp only [Bool.and_eq_true, Bool.not_eq_true', decide_eq_false_iff_not, Int.not_lt, gt_iff_lt]
theorem akL_len (ak : Bool) : (akL ak).length = 1 := by cases ak <;> rfl
theorem rowL_len {id : Int} {a b c : ByteArray} {n : Int} {d : ByteArray} {ta f l : Int} {ak : Bool} {y : ByteArray} (ha : a.size ≤ 100000) (hb : b.size ≤ 100000) (hc : c.size ≤ 100000) (hd : d.size ≤ 100000) (hy : y.size ≤ 100000)
    (hid : id < 9223372036854775808) (h : rowB id a b c n d ta f l ak y = true) : (rowL id a b c n d ta f l ak y).length ≤ 600000 := by
  obtain ⟨r1, r2, r3, r4, r5, r6, r7⟩ := rowB_iff.1 h
  obtain ⟨t1, t2, t3, t4, t5⟩ := timesB_iff.1 r5
  have hn := evB_n r7
  have l1 := evL_len ha hb hc hd hn.1 (show n < 9223372036854775808 by omega)
  have l2 := txt_len hy
  have l3 := gi_len (show 0 ≤ id by omega) hid
  have l4 := gi_len (show 0 ≤ ta by omega) (by omega)
  have l5 := gi_len t1 (by omega)
  have l6 := gi_len t3 (by omega)
  simp only [rowL, List.length_append, akL_len]
  omega
theorem flat4 (a b c d : Int) : [a, b, c, d].flatMap gi = gi a ++ (gi b ++ (gi c ++ gi d)) := by simp
theorem flat1 (a : Int) : [a].flatMap gi = gi a := by simp
theorem tpay_ev (q w id : Int) (a b c : ByteArray) (n : Int) (d : ByteArray) (ta f l : Int) (ak : Bool) (y : ByteArray) (ha : a.size ≤ 100000) (hb : b.size ≤ 100000) (hc : c.size ≤ 100000) (hd : d.size ≤ 100000) (hy : y.size ≤ 100000) (hid : id < 9223372036854775808) :
    Ev (fun k => ticket_Payload.f k q w id a b c n d ta f l ak y) (if tkB q w id a b c n d ta f l ak y = true then (ofL (payL w id a b c n d ta f l ak y), 0) else (⟨#[]⟩, 230)) := by
  obtain ⟨K1, h1⟩ := tcheck_ev q w id a b c n d ta f l ak y (by omega) (by omega) (by omega) (by omega) (by omega)
  rcases Bool.eq_false_or_eq_true (tkB q w id a b c n d ta f l ak y) with p | p
  · obtain ⟨q1, q2, q3, q4, hr⟩ := tkB_iff.1 p
    obtain ⟨r1, r2, r3, r4, r5, r6, r7⟩ := rowB_iff.1 hr
    obtain ⟨t1, t2, t3, t4, t5⟩ := timesB_iff.1 r5
    have hn := evB_n r7
    obtain ⟨K2, h2⟩ := nenc_ev a b c n d ha hb hc hd
    obtain ⟨K3, h3⟩ := tgroups_ev [id, ta, f, l] (by simp) (by intro x hx; simp only [List.mem_cons, List.not_mem_nil, or_false] at hx; rcases hx with rfl | rfl | rfl | rfl <;> omega)
    refine ⟨K1 + K2 + K3, fun k hk => ?_⟩
    have l1 := evL_len ha hb hc hd hn.1 (show n < 9223372036854775808 by omega)
    have l2 := txt_len hy
    have l3 := gi_len (show 0 ≤ id by omega) hid
    have l4 := gi_len (show 0 ≤ ta by omega) (show ta < 9223372036854775808 by omega)
    have l5 := gi_len t1 (show f < 9223372036854775808 by omega)
    have l6 := gi_len t3 (show l < 9223372036854775808 by omega)
    cases ak
    · simp only [ticket_Payload.f, h1 k (by omega), h2 k (by omega), h3 k (by omega), flat4, otext hy, p, r7, Option.bind_some, if_true, if_false, num_w (show 0 ≤ w by omega) (show w < 256 by omega), num_0, Bool.false_eq_true, ofL_app, ofL_size, List.length_append, List.length_cons, List.length_nil]
      rw [if_pos (by omega), if_pos (by omega), if_pos (by omega), if_pos (by omega)]
      simp only [payL, rowL, akL, Bool.false_eq_true, if_false, List.append_assoc, List.cons_append, List.nil_append]
    · simp only [ticket_Payload.f, h1 k (by omega), h2 k (by omega), h3 k (by omega), flat4, otext hy, p, r7, Option.bind_some, if_true, if_false, num_w (show 0 ≤ w by omega) (show w < 256 by omega), num_1, ofL_app, ofL_size, List.length_append, List.length_cons, List.length_nil]
      rw [if_pos (by omega), if_pos (by omega), if_pos (by omega), if_pos (by omega)]
      simp only [payL, rowL, akL, if_true, List.append_assoc, List.cons_append, List.nil_append]
  · refine ⟨K1, fun k hk => ?_⟩
    simp [ticket_Payload.f, h1 k hk, p]
def msgL (q w id : Int) (a b c : ByteArray) (n : Int) (d : ByteArray) (ta f l : Int) (ak : Bool) (y : ByteArray) : List UInt8 := 71 :: (gi q ++ payL w id a b c n d ta f l ak y)
theorem payL_len {w id : Int} {a b c : ByteArray} {n : Int} {d : ByteArray} {ta f l : Int} {ak : Bool} {y : ByteArray} (ha : a.size ≤ 100000) (hb : b.size ≤ 100000) (hc : c.size ≤ 100000) (hd : d.size ≤ 100000) (hy : y.size ≤ 100000)
    (hid : id < 9223372036854775808) (h : rowB id a b c n d ta f l ak y = true) : (payL w id a b c n d ta f l ak y).length ≤ 600001 := by
  have := rowL_len ha hb hc hd hy hid h
  simp only [payL, List.length_cons]
  omega
theorem g71 : (⟨#[71]⟩ : ByteArray) = ofL [71] := rfl
theorem tenc_ev (q w id : Int) (a b c : ByteArray) (n : Int) (d : ByteArray) (ta f l : Int) (ak : Bool) (y : ByteArray) (ha : a.size ≤ 100000) (hb : b.size ≤ 100000) (hc : c.size ≤ 100000) (hd : d.size ≤ 100000) (hy : y.size ≤ 100000) (hid : id < 9223372036854775808) :
    Ev (fun k => ticket_Encode.f k q w id a b c n d ta f l ak y) (if tkB q w id a b c n d ta f l ak y = true then (ofL (tagL (msgL q w id a b c n d ta f l ak y)), 0) else (⟨#[]⟩, 230)) := by
  obtain ⟨K1, h1⟩ := tpay_ev q w id a b c n d ta f l ak y ha hb hc hd hy hid
  rcases Bool.eq_false_or_eq_true (tkB q w id a b c n d ta f l ak y) with p | p
  · obtain ⟨q1, q2, q3, q4, hr⟩ := tkB_iff.1 p
    obtain ⟨K2, h2⟩ := tgroups_ev [q] (by simp) (by intro x hx; simp only [List.mem_cons, List.not_mem_nil, or_false] at hx; subst hx; omega)
    refine ⟨K1 + K2, fun k hk => ?_⟩
    have l1 := payL_len (w := w) ha hb hc hd hy hid hr
    have l2 := gi_len (show 0 ≤ q by omega) (by omega)
    simp only [ticket_Encode.f, h1 k (by omega), h2 k (by omega), flat1, p, Option.bind_some, if_true, g71, ofL_app, ofL_size, List.length_append, List.length_cons, List.length_nil]
    rw [if_pos (by omega), if_pos (by omega), tag_f _ (by rw [ofL_size]; simp only [List.length_append, List.length_cons, List.length_nil]; omega), Option.bind_some, ofL_L]
    simp only [msgL, List.append_assoc, List.cons_append, List.nil_append]
  · refine ⟨K1, fun k hk => ?_⟩
    simp [ticket_Encode.f, h1 k hk, p]
def ackB (n : Int) : Bool := decide (1 ≤ n ∧ n ≤ 1152921504606846976)
def ackL (n : Int) : List UInt8 := 65 :: gi n
theorem g65 : (⟨#[65]⟩ : ByteArray) = ofL [65] := rfl
theorem tack_ev (n : Int) : Ev (fun k => ticket_Ack.f k n) (if ackB n = true then (ofL (tagL (ackL n)), 0) else (⟨#[]⟩, 230)) := by
  by_cases r1 : n < 1
  · refine ev_succ 0 fun k _ => ?_
    rw [show ackB n = false from decide_eq_false (by omega)]
    simp [ticket_Ack.f, ticket_Ack.j0, r1]
  by_cases r2 : n > 1152921504606846976
  · refine ev_succ 0 fun k _ => ?_
    rw [show ackB n = false from decide_eq_false (by omega)]
    simp [ticket_Ack.f, ticket_Ack.j0, r1, r2]
  · obtain ⟨K2, h2⟩ := tgroups_ev [n] (by simp) (by intro x hx; simp only [List.mem_cons, List.not_mem_nil, or_false] at hx; subst hx; omega)
    refine ev_succ K2 fun k hk => ?_
    have l2 := gi_len (show 0 ≤ n by omega) (by omega)
    rw [show ackB n = true from decide_eq_true (by omega)]
    simp only [ticket_Ack.f, ticket_Ack.j0, r1, r2, decide_false, Bool.false_eq_true, if_false, if_true, h2 k hk, flat1, Option.bind_some, g65, ofL_app, ofL_size]
    rw [if_pos (by omega), tag_f _ (by rw [ofL_size]; simp only [List.length_append, List.length_cons, List.length_nil]; omega), Option.bind_some, ofL_L]
    rfl
end Go.Proofs.YtipenplplmdclaaDoor.Tkt
end
section
namespace Go.Proofs.YtipenplplmdclaaDoor.OctF
open Go Go.Proofs.YtipenplplmdclaaDoor.Str
theorem pg_hi (most : Int) (q : Nat) : ∀ acc : List UInt8, (q : Int) ≤ most → q < 72057594037927936 → pg most 9 0 (hi q ++ acc) 0 = pg most (9 - (hi q).length) q acc (hi q).length := by
  induction q using Nat.strongRecOn with
  | _ q ih =>
    intro acc hm hq
    by_cases h0 : q = 0
    · subst h0
      rw [hi_zero]
      rfl
    · have hl : (hi (q / 128)).length ≤ 7 := hi_length 7 _ (by omega)
      rw [hi_pos h0, List.append_assoc, ih (q / 128) (by omega) _ (by omega) (by omega)]
      generalize hL : (hi (q / 128)).length = L at hl
      obtain ⟨f, hf⟩ : ∃ f, 9 - L = f + 1 := ⟨8 - L, by omega⟩
      have hb : (UInt8.ofNat (q % 128 + 128)).toNat = q % 128 + 128 := toNat_ofNat (by omega)
      have hz : ¬ (L = 0 ∧ q % 128 + 128 = 128) := by
        rintro ⟨z1, z2⟩
        have hq0 : q / 128 = 0 := by
          rcases Nat.eq_zero_or_pos (q / 128) with h | h
          · exact h
          · rw [hi_pos (by omega), List.length_append] at hL
            simp at hL
            omega
        omega
      rw [hf]
      simp only [List.cons_append, List.nil_append, pg, hb]
      rw [if_neg hz, show q / 128 * 128 + (q % 128 + 128) % 128 = q by omega, if_neg (by omega), if_neg (by omega), List.length_append, hL]
      simp only [List.length_cons, List.length_nil, Nat.zero_add]
      congr 1
      omega
theorem rdG_grp (most : Int) (n : Nat) (r : List UInt8) (hm : (n : Int) ≤ most) (hn : n < 9223372036854775808) : rdG most (grp n ++ r) = ((n : Int), ((grp n).length : Int), 0) := by
  have hl : (hi (n / 128)).length ≤ 8 := hi_length 8 _ (by omega)
  unfold rdG grp
  rw [List.append_assoc, pg_hi most (n / 128) _ (by omega) (by omega)]
  generalize hL : (hi (n / 128)).length = L at hl ⊢
  have hb : (UInt8.ofNat (n % 128)).toNat = n % 128 := toNat_ofNat (by omega)
  obtain ⟨f, hf⟩ : ∃ f, 9 - L = f + 1 := ⟨8 - L, by omega⟩
  rw [hf]
  simp only [List.cons_append, List.nil_append, pg, hb, List.length_append, List.length_cons, List.length_nil]
  rw [if_neg (by omega), show n / 128 * 128 + n % 128 % 128 = n by omega, if_neg (by omega), if_pos (by omega), hL]
theorem pg_inv (most : Int) (f : Nat) : ∀ (n : Nat) (pre l : List UInt8) (i : Nat), i = pre.length → hi n = pre → (i = 0 ↔ n = 0) → (pg most f n l i).2.2 = 0 →
    ∃ m : Nat, (pg most f n l i).1 = (m : Int) ∧ ∃ j : Nat, (pg most f n l i).2.1 = (j : Int) ∧ i ≤ j ∧ j ≤ i + l.length ∧ grp m = pre ++ l.take (j - i) := by
  induction f with
  | zero => intro n pre l i _ _ _ h; simp [pg] at h
  | succ f ih =>
    intro n pre l i hi' hp hz h
    cases l with
    | nil => simp [pg] at h
    | cons b r =>
      simp only [pg] at h ⊢
      have hbl := b.toNat_lt
      split at h
      · simp at h
      · rename_i h1
        rw [if_neg h1]
        split at h
        · simp at h
        · rename_i h2
          rw [if_neg h2]
          split at h
          · rename_i h3
            rw [if_pos h3]
            refine ⟨_, rfl, i + 1, rfl, by omega, by simp, ?_⟩
            unfold grp
            rw [show (n * 128 + b.toNat % 128) / 128 = n by omega, hp, show i + 1 - i = 1 by omega]
            simp only [List.take_succ_cons, List.take_zero]
            congr 2
            apply UInt8.toNat_inj.1
            rw [toNat_ofNat (by omega)]
            omega
          · rename_i h3
            rw [if_neg h3]
            have hn0 : n * 128 + b.toNat % 128 ≠ 0 := by
              intro z
              have : n = 0 := by omega
              exact h1 ⟨hz.2 this, by omega⟩
            have hh : hi (n * 128 + b.toNat % 128) = pre ++ [b] := by
              rw [hi_pos hn0, show (n * 128 + b.toNat % 128) / 128 = n by omega, hp]
              congr 2
              apply UInt8.toNat_inj.1
              rw [toNat_ofNat (by omega)]
              omega
            obtain ⟨m, e1, j, e2, hj1, hj2, e3⟩ := ih (n * 128 + b.toNat % 128) (pre ++ [b]) r (i + 1) (by simp; omega) hh (by omega) h
            refine ⟨m, e1, j, e2, by omega, by simp; omega, ?_⟩
            rw [e3, List.append_assoc]
            congr 1
            rw [show j - i = (j - (i + 1)) + 1 by omega, List.take_succ_cons]
            rfl
theorem rdG_inv (most : Int) (l : List UInt8) (h : (rdG most l).2.2 = 0) : ∃ m j : Nat, (rdG most l).1 = (m : Int) ∧ (rdG most l).2.1 = (j : Int) ∧ j ≤ l.length ∧ grp m = l.take j := by
  obtain ⟨m, e1, j, e2, _, h2, e3⟩ := pg_inv most 9 0 [] l 0 rfl hi_zero (by simp) h
  exact ⟨m, j, e1, e2, by simpa using h2, by simpa using e3⟩
end Go.Proofs.YtipenplplmdclaaDoor.OctF
end
