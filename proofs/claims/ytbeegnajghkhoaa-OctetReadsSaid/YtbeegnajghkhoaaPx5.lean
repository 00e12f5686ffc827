-- Laid by wip/hprint.py: the kit's print of the translation, turned in places, beside contracts that this session wrote by hand; Lean checks all of it.
import Derived.Test.YtbeegnajghkhoaaPx0
import Derived.Test.YtbeegnajghkhoaaPx2
import Derived.Test.YtbeegnajghkhoaaPx3
namespace Go.Proofs.Ytbeegnajghkhoaa.Px
open Go.RowKit Go.Proofs.YtbeegnajghkhoaaW.PrintWords Go.Proofs.YtbeegnajghkhoaaW.PrintLast Go.Proofs.YtbeegnajghkhoaaW.PrintMore
attribute [local go_sem] max2_int min2_int max_two min_two max_three min_three max_four min_four   -- for this text's walks alone
set_option linter.unusedVariables false
set_option linter.unusedSimpArgs false

/-! ### octet_Reader_Bytes: function 27 -/
def octet_Reader_Bytes.f (s0_0 : ByteArray) (s0_1 : Int) (a1 : Int) : Option (ByteArray × ByteArray × Int) := if s0_1 = 0 then (if a1 < 0 then ((octet_Reader_Refuse.f s0_0 s0_1 1).bind fun bt166 => (some ((⟨#[]⟩ : ByteArray), bt166.1, bt166.2))) else (if a1 > (s0_0.size : Int) then ((octet_Reader_Refuse.f s0_0 s0_1 10).bind fun bt168 => (some ((⟨#[]⟩ : ByteArray), bt168.1, bt168.2))) else (if 0 ≤ a1 then (if a1 ≤ (s0_0.size : Int) then (some (s0_0.extract 0 (a1 : Int).toNat, s0_0.extract (a1 : Int).toNat s0_0.size, s0_1)) else (none)) else (none)))) else (some ((⟨#[]⟩ : ByteArray), s0_0, s0_1))
set_option maxHeartbeats 8000000 in
set_option maxRecDepth 100000 in
theorem octet_Reader_Bytes.calls (g : Nat) (s0_0 : ByteArray) (s0_1 : Int) (a1 : Int) (r1 : ByteArray) (r2 : ByteArray) (r3 : Int) (w0 w : World) (hI : IsS59 w0 w g s0_0 s0_1) (hB : Below w0.heap.size w0 w) (h : octet_Reader_Bytes.f s0_0 s0_1 a1 = some (r1, r2, r3)) :
    Calls Try.prog 27 #[.pointer (some ⟨g, 0, none⟩), .int .i64 a1] w fun e w' => e = .returned (.string r1) ∧ IsS59 w0 w' g r2 r3 ∧ Below w0.heap.size w0 w' ∧ KeepBut w w' g none := by
  have HI0 := Aside0.mk hI
  have HK := Aside0.mk (KeepBut.refl w g none)
  have HL := Aside0.mk hB.size
  clear hI
  have HW0 := Aside0.mk hB.size
  have HB := Aside0.mk hB
  clear hB
  have H : (if s0_1 = 0 then (if a1 < 0 then ((octet_Reader_Refuse.f s0_0 s0_1 1).bind fun bt166 => (some ((⟨#[]⟩ : ByteArray), bt166.1, bt166.2))) else (if a1 > (s0_0.size : Int) then ((octet_Reader_Refuse.f s0_0 s0_1 10).bind fun bt168 => (some ((⟨#[]⟩ : ByteArray), bt168.1, bt168.2))) else (if 0 ≤ a1 then (if a1 ≤ (s0_0.size : Int) then (some (s0_0.extract 0 (a1 : Int).toNat, s0_0.extract (a1 : Int).toNat s0_0.size, s0_1)) else (none)) else (none)))) else (some ((⟨#[]⟩ : ByteArray), s0_0, s0_1))) = some (r1, r2, r3) := h
  clear h
  by_cases c3 : s0_1 = 0
  · rw [if_pos c3] at H
    have c3b0 : (s0_1 == 0) = true := beq_iff_eq.mpr c3
    have c3b1 : (s0_1 != 0) = false := bne_eq_false_iff_eq.mpr c3
    clear c3
    by_cases c4 : a1 < 0
    · rw [if_pos c4] at H
      have c4b0 : decide (a1 < 0) = true := decide_eq_true c4
      clear c4
      replace H := Option.bind_eq_some_iff.mp H
      obtain ⟨⟨t166, t167⟩, A50, H⟩ := H
      replace H : (some ((⟨#[]⟩ : ByteArray), t166, t167)) = some (r1, r2, r3) := H
      have A5 := Aside0.mk A50
      clear A50
      simp only [Option.some.injEq, Prod.mk.injEq] at H
      obtain ⟨rfl, rfl, rfl⟩ := H
      obtain ⟨HGz6, hgz6⟩ := HI0.out
      have hcz6_0 := cellS59_0 HGz6
      have hcz6_1 := cellS59_1 HGz6
      have hfz6_0 := blk_frozen HGz6 0
      have hfz6_1 := blk_frozen HGz6 1
      clear HGz6 hgz6
      go_enter Try.func27, Try.ntmps27
      go_wp2_with (first | ((with_reducible refine gate_callee (f := 24) rfl ?_); refine goesL_ (some 32) rfl rfl Try.func24 (by kernel_rfl) rfl #[.pointer (some ⟨g, 0, none⟩), .int .i64 1] rfl (by (try simp only [List.map_toArray, List.map_cons, List.map_nil]); first | done | rfl | (simp only [List.length_drop, List.length_take]; rfl)) ?_; (with_reducible refine (octet_Reader_Refuse.calls g s0_0 s0_1 1 t166 t167 w0 _ ?side1 ?side2 A5.out).mono ?_); (case side1 => repeat (first | (with_reducible first | exact HI0.out | apply IsS59.alloc | apply IsS59.drewN | apply IsS59.drew | apply IsS59.set_0 | apply IsS59.set_1) | exact HI0.out)); (case side2 => repeat (first | (with_reducible first | exact HB.out | apply below_alloc | apply pw_below_drewN | apply below_drew1 | refine below_set ?_ (IsS59.ge HI0.out)) | exact HB.out)); rintro e w7 ⟨rfl, hi, hb, hk⟩; refine ⟨_, rfl, ?_⟩; have n0_ := Aside0.mk (KeepBut.trans (by repeat (first | (with_reducible first | exact HK.out | apply KeepBut.set_ | apply keep_drewN | apply keep_drew | apply keep_alloc) | exact HK.out)) hk (.inl rfl)); have n1_ := Aside0.mk (hb); have n2_ := Aside0.mk (hi); clear HK; clear HB; clear HI0; have HK := n0_; have HB := n1_; have HI0 := n2_; clear n0_ n1_ n2_; (try clear hb); (try clear hb2); (try clear hk); (try clear hi)))
      go_ret
      exact ⟨by first | rfl | (simp [errW_none, errW_some] <;> rfl) | (simp [*, errW_none, errW_some] <;> rfl), by repeat (first | (with_reducible first | exact HI0.out | apply IsS59.alloc | apply IsS59.drewN | apply IsS59.drew | apply IsS59.set_0 | apply IsS59.set_1) | exact HI0.out), by repeat (first | (with_reducible first | exact HB.out | apply below_alloc | apply pw_below_drewN | apply below_drew1 | refine below_set ?_ (IsS59.ge HI0.out)) | exact HB.out), by repeat (first | (with_reducible first | exact HK.out | apply KeepBut.set_ | apply keep_drewN | apply keep_drew | apply keep_alloc) | exact HK.out)⟩
    · rw [if_neg c4] at H
      have c4b0 : decide (a1 < 0) = false := decide_eq_false c4
      clear c4
      by_cases c8 : a1 > (s0_0.size : Int)
      · rw [if_pos c8] at H
        have c8b0 : decide ((s0_0.size : Int) < a1) = true := decide_eq_true c8
        clear c8
        replace H := Option.bind_eq_some_iff.mp H
        obtain ⟨⟨t168, t169⟩, A90, H⟩ := H
        replace H : (some ((⟨#[]⟩ : ByteArray), t168, t169)) = some (r1, r2, r3) := H
        have A9 := Aside0.mk A90
        clear A90
        simp only [Option.some.injEq, Prod.mk.injEq] at H
        obtain ⟨rfl, rfl, rfl⟩ := H
        obtain ⟨HGz10, hgz10⟩ := HI0.out
        have hcz10_0 := cellS59_0 HGz10
        have hcz10_1 := cellS59_1 HGz10
        have hfz10_0 := blk_frozen HGz10 0
        have hfz10_1 := blk_frozen HGz10 1
        clear HGz10 hgz10
        go_enter Try.func27, Try.ntmps27
        go_wp2_with (first | ((with_reducible refine gate_callee (f := 24) rfl ?_); refine goesL_ (some 42) rfl rfl Try.func24 (by kernel_rfl) rfl #[.pointer (some ⟨g, 0, none⟩), .int .i64 10] rfl (by (try simp only [List.map_toArray, List.map_cons, List.map_nil]); first | done | rfl | (simp only [List.length_drop, List.length_take]; rfl)) ?_; (with_reducible refine (octet_Reader_Refuse.calls g s0_0 s0_1 10 t168 t169 w0 _ ?side1 ?side2 A9.out).mono ?_); (case side1 => repeat (first | (with_reducible first | exact HI0.out | apply IsS59.alloc | apply IsS59.drewN | apply IsS59.drew | apply IsS59.set_0 | apply IsS59.set_1) | exact HI0.out)); (case side2 => repeat (first | (with_reducible first | exact HB.out | apply below_alloc | apply pw_below_drewN | apply below_drew1 | refine below_set ?_ (IsS59.ge HI0.out)) | exact HB.out)); rintro e w11 ⟨rfl, hi, hb, hk⟩; refine ⟨_, rfl, ?_⟩; have n0_ := Aside0.mk (KeepBut.trans (by repeat (first | (with_reducible first | exact HK.out | apply KeepBut.set_ | apply keep_drewN | apply keep_drew | apply keep_alloc) | exact HK.out)) hk (.inl rfl)); have n1_ := Aside0.mk (hb); have n2_ := Aside0.mk (hi); clear HK; clear HB; clear HI0; have HK := n0_; have HB := n1_; have HI0 := n2_; clear n0_ n1_ n2_; (try clear hb); (try clear hb2); (try clear hk); (try clear hi)))
        go_ret
        exact ⟨by first | rfl | (simp [errW_none, errW_some] <;> rfl) | (simp [*, errW_none, errW_some] <;> rfl), by repeat (first | (with_reducible first | exact HI0.out | apply IsS59.alloc | apply IsS59.drewN | apply IsS59.drew | apply IsS59.set_0 | apply IsS59.set_1) | exact HI0.out), by repeat (first | (with_reducible first | exact HB.out | apply below_alloc | apply pw_below_drewN | apply below_drew1 | refine below_set ?_ (IsS59.ge HI0.out)) | exact HB.out), by repeat (first | (with_reducible first | exact HK.out | apply KeepBut.set_ | apply keep_drewN | apply keep_drew | apply keep_alloc) | exact HK.out)⟩
      · rw [if_neg c8] at H
        have c8b0 : decide ((s0_0.size : Int) < a1) = false := decide_eq_false c8
        clear c8
        by_cases c12 : 0 ≤ a1
        · rw [if_pos c12] at H
          have c12b0 := eq_true c12
          have c12b1 : decide (0 ≤ a1) = true := decide_eq_true c12
          clear c12
          by_cases c13 : a1 ≤ (s0_0.size : Int)
          · rw [if_pos c13] at H
            have c13b0 := eq_true c13
            have c13b1 : decide (a1 ≤ (s0_0.size : Int)) = true := decide_eq_true c13
            clear c13
            have c14b0 := eq_true (of_decide_eq_true (by first | (with_reducible assumption) | assumption) : 0 ≤ a1)
            have c15b0 := eq_true (of_decide_eq_true (by first | (with_reducible assumption) | assumption) : a1 ≤ (s0_0.size : Int))
            simp only [Option.some.injEq, Prod.mk.injEq] at H
            obtain ⟨rfl, rfl, rfl⟩ := H
            obtain ⟨HGz16, hgz16⟩ := HI0.out
            have hcz16_0 := cellS59_0 HGz16
            have hcz16_1 := cellS59_1 HGz16
            have hfz16_0 := blk_frozen HGz16 0
            have hfz16_1 := blk_frozen HGz16 1
            clear HGz16 hgz16
            go_enter Try.func27, Try.ntmps27
            go_wp2
            go_ret
            exact ⟨by first | rfl | (simp [errW_none, errW_some] <;> rfl) | (simp [*, errW_none, errW_some] <;> rfl), by repeat (first | (with_reducible first | exact HI0.out | apply IsS59.alloc | apply IsS59.drewN | apply IsS59.drew | apply IsS59.set_0 | apply IsS59.set_1) | exact HI0.out), by repeat (first | (with_reducible first | exact HB.out | apply below_alloc | apply pw_below_drewN | apply below_drew1 | refine below_set ?_ (IsS59.ge HI0.out)) | exact HB.out), by repeat (first | (with_reducible first | exact HK.out | apply KeepBut.set_ | apply keep_drewN | apply keep_drew | apply keep_alloc) | exact HK.out)⟩
          · rw [if_neg c13] at H
            exact absurd H (by simp)
        · rw [if_neg c12] at H
          exact absurd H (by simp)
  · rw [if_neg c3] at H
    have c3b0 : (s0_1 == 0) = false := beq_eq_false_iff_ne.mpr c3
    have c3b1 : (s0_1 != 0) = true := bne_iff_ne.mpr c3
    simp only [Option.some.injEq, Prod.mk.injEq] at H
    obtain ⟨rfl, rfl, rfl⟩ := H
    obtain ⟨HGz17, hgz17⟩ := HI0.out
    have hcz17_0 := cellS59_0 HGz17
    have hcz17_1 := cellS59_1 HGz17
    have hfz17_0 := blk_frozen HGz17 0
    have hfz17_1 := blk_frozen HGz17 1
    clear HGz17 hgz17
    go_enter Try.func27, Try.ntmps27
    go_wp2
    go_ret
    exact ⟨by first | rfl | (simp [errW_none, errW_some] <;> rfl) | (simp [*, errW_none, errW_some] <;> rfl), by repeat (first | (with_reducible first | exact HI0.out | apply IsS59.alloc | apply IsS59.drewN | apply IsS59.drew | apply IsS59.set_0 | apply IsS59.set_1) | exact HI0.out), by repeat (first | (with_reducible first | exact HB.out | apply below_alloc | apply pw_below_drewN | apply below_drew1 | refine below_set ?_ (IsS59.ge HI0.out)) | exact HB.out), by repeat (first | (with_reducible first | exact HK.out | apply KeepBut.set_ | apply keep_drewN | apply keep_drew | apply keep_alloc) | exact HK.out)⟩

/-! ### octet_Reader_Wide: function 25, by hand -/
def octet_Reader_Wide.f (s0_0 : ByteArray) (s0_1 : Int) (a1 : Int) : Option (Int × ByteArray × Int) :=
  (if a1 < 1 ∨ 8 < a1 then octet_Reader_Refuse.f s0_0 s0_1 1 else some (s0_0, s0_1)).bind fun b => (octet_Reader_Bytes.f b.1 b.2 a1).bind fun c =>
    if c.1.size ≤ 8 then (if Go.Proofs.Ytbeegnajghkhoaa.Oct.wideU (Go.Proofs.Ytbeegnajghkhoaa.BR.ints c.1) < 9223372036854775808 then some (Go.Proofs.Ytbeegnajghkhoaa.Oct.wideU (Go.Proofs.Ytbeegnajghkhoaa.BR.ints c.1), c.2.1, c.2.2) else (octet_Reader_Refuse.f c.2.1 c.2.2 1).bind fun d => some (0, b.1, d.2)) else none
set_option maxHeartbeats 4000000 in
set_option maxRecDepth 100000 in
theorem octet_Reader_Wide.calls (g : Nat) (s0_0 : ByteArray) (s0_1 : Int) (a1 : Int) (r1 : Int) (r2 : ByteArray) (r3 : Int) (w0 w : World) (hI : IsS59 w0 w g s0_0 s0_1) (hB : Below w0.heap.size w0 w) (h : octet_Reader_Wide.f s0_0 s0_1 a1 = some (r1, r2, r3)) :
    Calls Try.prog 25 #[.pointer (some ⟨g, 0, none⟩), .int .i64 a1] w fun e w' => e = .returned (.int .i64 r1) ∧ IsS59 w0 w' g r2 r3 ∧ Below w0.heap.size w0 w' ∧ KeepBut w w' g none := by
  have hg := hI.2
  unfold octet_Reader_Wide.f at h
  obtain ⟨⟨s1, c1⟩, h1, h⟩ := Option.bind_eq_some_iff.mp h
  obtain ⟨⟨t, s2, c2⟩, h2, h⟩ := Option.bind_eq_some_iff.mp h
  by_cases hs : t.size ≤ 8
  case neg => rw [if_neg hs] at h; cases h
  rw [if_pos hs] at h
  have H2 := Lib.hid h2
  have H3 := Lib.hid h
  clear h2 h
  have HI := Aside0.mk hI
  have HB := Aside0.mk hB
  clear hI hB
  have H1 := Lib.hid h1
  clear h1
  go_enter Try.func25, Try.ntmps25
  go_upto_region 1 with (fail)
  go_cut [14] (fun v14 wc => v14 = .bool (decide (a1 < 1 ∨ 8 < a1)) ∧ w = wc)
  case first =>
    by_cases hw1 : a1 < 1
    · have e : decide (a1 < 1 ∨ 8 < a1) = true := decide_eq_true (.inl hw1)
      have HE := Lib.hid e
      clear e
      go_wp2_with fail
      go_meet
      case rel => exact ⟨by rw [HE.out], rfl⟩
    · by_cases hw2 : 8 < a1
      · have e : decide (a1 < 1 ∨ 8 < a1) = true := decide_eq_true (.inr hw2)
        have HE := Lib.hid e
        clear e
        go_wp2_with fail
        go_meet
        case rel => exact ⟨by rw [HE.out], rfl⟩
      · have e : decide (a1 < 1 ∨ 8 < a1) = false := decide_eq_false (by omega)
        have HE := Lib.hid e
        clear e
        go_wp2_with fail
        go_meet
        case rel => exact ⟨by rw [HE.out], rfl⟩
  case rest =>
  obtain ⟨rfl, rfl⟩ := hcut
  go_upto_if 14 with (fail)
  go_cut [4] (fun v4 wc => v4 = .int .i64 0 ∧ Aside0 (IsS59 w0 wc g s1 c1) ∧ Aside0 (Below w0.heap.size w0 wc) ∧ Aside0 (KeepBut w wc g none))
  case first =>
    have h1 := H1.out
    by_cases hw : a1 < 1 ∨ 8 < a1
    · rw [if_pos hw] at h1
      have H1' := Lib.hid h1
      clear h1 H1
      rw [decide_eq_true hw]
      clear hw
      go_wp2_with fail
      refine (octet_Reader_Refuse.calls g s0_0 s0_1 1 s1 c1 w0 w HI.out HB.out H1'.out).mono ?_
      rintro e W1 ⟨rfl, hi1, hb1, hk1⟩
      go_wp2_with fail
      go_meet
      case rel => exact ⟨rfl, ⟨hi1⟩, ⟨hb1⟩, ⟨hk1⟩⟩
    · rw [if_neg hw] at h1
      injection h1 with h1
      injection h1 with h1 h2
      subst h1
      subst h2
      rw [decide_eq_false hw]
      clear hw
      go_wp2_with fail
      go_meet
      case rel => exact ⟨rfl, HI, HB, ⟨KeepBut.refl _ _ _⟩⟩
  case rest =>
    obtain ⟨rfl, HI1, HB1, HK1⟩ := hcut
    have HG1 := HI1.out.1
    have hc0 := cellS59_0 HG1
    have hc1 := cellS59_1 HG1
    clear HG1 HI HB
    go_wp2_with fail
    refine (octet_Reader_Bytes.calls g s1 c1 a1 t s2 c2 w0 wc HI1.out HB1.out H2.out).mono ?_
    rintro e W2 ⟨rfl, hi2, hb2, hk2⟩
    have hrow := Go.Proofs.Ytbeegnajghkhoaa.BR.bytesWorld_row W2 5 t (by unfold maxLen; omega)
    have hbel := Go.Proofs.Ytbeegnajghkhoaa.BR.bytesWorld_below W2 5 t
    have kc := Lib.run_convert_string_bytes (P := Try.prog) W2 9 53 5 t Try.underlying9 Try.underlying53 Try.underlying5
    generalize Lib.bytesWorld W2 5 t = W3 at kc hrow hbel
    generalize grownCap W2 t.size 0 5 = cp at kc hrow
    have HR := Lib.hid hrow
    have HI3 := Aside0.mk (hi2.below hbel)
    have HB3 := Aside0.mk (hb2.trans (hbel.mono hb2.size))
    have HK3 := Aside0.mk ((HK1.out.trans hk2 (.inl rfl)).trans (KeepBut.of_below hbel g none) (.inl rfl))
    clear hrow hbel hi2 hb2 hk2 HI1 HB1 HK1 hc0 hc1
    have hil : (Go.Proofs.Ytbeegnajghkhoaa.BR.ints t).length = t.size := by simp [Go.Proofs.Ytbeegnajghkhoaa.BR.ints]
    have HL := Lib.hid hil
    clear hil
    go_wp2_with fail
    go_loop [6, 26] (fun n i => ∃ k : Nat, k ≤ t.size ∧ i = .int .i64 k ∧ n = .int .u64 (Go.Proofs.Ytbeegnajghkhoaa.Oct.wideU ((Go.Proofs.Ytbeegnajghkhoaa.BR.ints t).take k))) (fun _ i => t.size - (intOf i).toNat)
    case atStart => exact ⟨0, Nat.zero_le _, rfl, rfl⟩
    case round =>
      obtain ⟨k, hk, rfl, rfl⟩ := hrel
      by_cases hlt : k < t.size
      · have hc := HR.out.cell k (by rw [HL.out]; exact hlt)
        have HS := Lib.hid (Go.Proofs.Ytbeegnajghkhoaa.Oct.wideU_snoc (Go.Proofs.Ytbeegnajghkhoaa.BR.ints t) k (by rw [HL.out]; exact hlt))
        have hb0 := Go.Proofs.Ytbeegnajghkhoaa.Oct.ints_range t k
        have hw := Lib.hid (show IntKind.u64.wrap ((Go.Proofs.Ytbeegnajghkhoaa.BR.ints t).getD k 0) = (Go.Proofs.Ytbeegnajghkhoaa.BR.ints t).getD k 0 by rw [IntKind.wrap_u64]; omega)
        clear hb0
        go_wp2_with fail
        go_round
        case rel => exact ⟨k + 1, by omega, rfl, by rw [HS.out]; exact congrArg (fun z => Value.int .u64 (Go.bits .or .u64 _ z)) hw.out⟩
        case measure => simp [intOf]; omega
      · obtain rfl : k = t.size := by omega
        have htk : (Go.Proofs.Ytbeegnajghkhoaa.BR.ints t).take t.size = Go.Proofs.Ytbeegnajghkhoaa.BR.ints t := List.take_of_length_le (by rw [HL.out]; exact Nat.le_refl _)
        rw [htk]
        have hr := Lib.hid (Go.Proofs.Ytbeegnajghkhoaa.Oct.wideU_range (Go.Proofs.Ytbeegnajghkhoaa.BR.ints t))
        have h3 := H3.out
        by_cases hbig : Go.Proofs.Ytbeegnajghkhoaa.Oct.wideU (Go.Proofs.Ytbeegnajghkhoaa.BR.ints t) < 9223372036854775808
        · rw [if_pos hbig] at h3
          injection h3 with h3
          simp only [Prod.mk.injEq] at h3
          obtain ⟨rfl, rfl, rfl⟩ := h3
          have hwr := Lib.hid (show wrap64 (Go.Proofs.Ytbeegnajghkhoaa.Oct.wideU (Go.Proofs.Ytbeegnajghkhoaa.BR.ints t)) = Go.Proofs.Ytbeegnajghkhoaa.Oct.wideU (Go.Proofs.Ytbeegnajghkhoaa.BR.ints t) by have := hr.out; unfold wrap64; omega)
          go_wp2_with fail
          go_ret
          exact ⟨by show Ending.returned (.int .i64 (wrap64 _)) = _; rw [hwr.out], HI3.out, HB3.out, HK3.out⟩
        · rw [if_neg hbig] at h3
          obtain ⟨⟨s3, c3⟩, h4, h3⟩ := Option.bind_eq_some_iff.mp h3
          injection h3 with h3
          simp only [Prod.mk.injEq] at h3
          obtain ⟨rfl, rfl, rfl⟩ := h3
          have H4 := Lib.hid h4
          clear h4 H3
          go_wp2_with fail
          refine (octet_Reader_Refuse.calls g s2 c2 1 s3 c3 w0 W3 HI3.out HB3.out H4.out).mono ?_
          rintro e W4 ⟨rfl, hi4, hb4, hk4⟩
          have HG4 := hi4.1
          have hd0 := cellS59_0 HG4
          have hf0 := blk_frozen HG4 0
          have HI4 := Aside0.mk hi4
          have HB4 := Aside0.mk hb4
          have HK4 := Aside0.mk (HK3.out.trans hk4 (.inl rfl))
          clear HG4 hi4 hb4 hk4
          go_wp2_with fail
          go_ret
          exact ⟨rfl, HI4.out.set_0 _, below_set HB4.out hg, HK4.out.set_ _ _⟩

/-! ### octet_Reader_Text: function 26, by hand -/
def octet_Reader_Text.f (s0_0 : ByteArray) (s0_1 : Int) (a1 : Int) : Option (ByteArray × ByteArray × Int) :=
  (octet_Reader_Groups.f 40 s0_0 s0_1 a1).bind fun b => (octet_Reader_Bytes.f b.2.1 b.2.2 b.1).bind fun c => if c.2.2 = 0 then some (c.1, c.2.1, c.2.2) else some (c.1, s0_0, c.2.2)
set_option maxHeartbeats 4000000 in
set_option maxRecDepth 100000 in
theorem octet_Reader_Text.calls (g : Nat) (s0_0 : ByteArray) (s0_1 : Int) (a1 : Int) (r1 : ByteArray) (r2 : ByteArray) (r3 : Int) (w0 w : World) (hI : IsS59 w0 w g s0_0 s0_1) (hB : Below w0.heap.size w0 w) (h : octet_Reader_Text.f s0_0 s0_1 a1 = some (r1, r2, r3)) :
    Calls Try.prog 26 #[.pointer (some ⟨g, 0, none⟩), .int .i64 a1] w fun e w' => e = .returned (.string r1) ∧ IsS59 w0 w' g r2 r3 ∧ Below w0.heap.size w0 w' ∧ KeepBut w w' g none := by
  unfold octet_Reader_Text.f at h
  obtain ⟨⟨n, s1, c1⟩, h1, h⟩ := Option.bind_eq_some_iff.mp h
  obtain ⟨⟨t, s2, c2⟩, h2, h⟩ := Option.bind_eq_some_iff.mp h
  have H1 := Lib.hid h1
  have H2 := Lib.hid h2
  have H3 := Lib.hid h
  clear h1 h2 h
  obtain ⟨HG, hg⟩ := hI
  have hc0 := cellS59_0 HG
  have hc1 := cellS59_1 HG
  have HI := Aside0.mk (show IsS59 w0 w g s0_0 s0_1 from ⟨HG, hg⟩)
  have HB := Aside0.mk hB
  clear HG hB
  go_enter Try.func26, Try.ntmps26
  go_wp2_with fail
  refine (octet_Reader_Groups.calls 40 g s0_0 s0_1 a1 n s1 c1 w0 w HI.out HB.out H1.out).mono ?_
  rintro e W1 ⟨rfl, hi1, hb1, hk1⟩
  have HI1 := Aside0.mk hi1
  have HB1 := Aside0.mk hb1
  have HK1 := Aside0.mk hk1
  clear hi1 hb1 hk1
  go_wp2_with fail
  refine (octet_Reader_Bytes.calls g s1 c1 n t s2 c2 w0 W1 HI1.out HB1.out H2.out).mono ?_
  rintro e W2 ⟨rfl, hi2, hb2, hk2⟩
  obtain ⟨HG2, _⟩ := hi2
  have hd0 := cellS59_0 HG2
  have hd1 := cellS59_1 HG2
  have hf0 := blk_frozen HG2 0
  have HI2 := Aside0.mk (show IsS59 w0 W2 g s2 c2 from ⟨HG2, hg⟩)
  have HB2 := Aside0.mk hb2
  have HK2 := Aside0.mk (HK1.out.trans hk2 (.inl rfl))
  clear HG2 hb2 hk2
  by_cases hz : c2 = 0
  · have h3 := H3.out
    rw [if_pos hz] at h3
    injection h3 with h3
    simp only [Prod.mk.injEq] at h3
    obtain ⟨rfl, rfl, rfl⟩ := h3
    have hzb : (c2 != 0) = false := bne_eq_false_iff_eq.mpr hz
    clear hz
    go_wp2_with fail
    go_ret
    exact ⟨rfl, HI2.out, HB2.out, HK2.out⟩
  · have h3 := H3.out
    rw [if_neg hz] at h3
    injection h3 with h3
    simp only [Prod.mk.injEq] at h3
    obtain ⟨rfl, rfl, rfl⟩ := h3
    have hzb : (c2 != 0) = true := bne_iff_ne.mpr hz
    clear hz
    go_wp2_with fail
    go_ret
    exact ⟨rfl, HI2.out.set_0 _, below_set HB2.out hg, HK2.out.set_ _ _⟩

end Go.Proofs.Ytbeegnajghkhoaa.Px
