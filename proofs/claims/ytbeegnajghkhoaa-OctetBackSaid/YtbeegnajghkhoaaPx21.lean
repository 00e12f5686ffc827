-- Laid by wip/hprint.py: the kit's print of the translation, turned in places, beside contracts that this session wrote by hand; Lean checks all of it.
import Derived.Test.YtbeegnajghkhoaaPx0
import Derived.Test.YtbeegnajghkhoaaPx12
import Derived.Test.YtbeegnajghkhoaaPx13
import Derived.Test.YtbeegnajghkhoaaPx20
namespace Go.Proofs.Ytbeegnajghkhoaa.Px
open Go.RowKit Go.Proofs.YtbeegnajghkhoaaW.PrintWords Go.Proofs.YtbeegnajghkhoaaW.PrintLast Go.Proofs.YtbeegnajghkhoaaW.PrintMore
attribute [local go_sem] max2_int min2_int max_two min_two max_three min_three max_four min_four   -- for this text's walks alone
set_option linter.unusedVariables false
set_option linter.unusedSimpArgs false

/-! ### octet_Reader_Wide: function 25, by hand -/
def octet_Reader_Wide.f (s0_0 : ByteArray) (s0_1 : Int) (a1 : Int) : Option (Int × ByteArray × Int) :=
  (if a1 < 1 ∨ 8 < a1 then octet_Reader_Refuse.f s0_0 s0_1 1 else some (s0_0, s0_1)).bind fun b => (octet_Reader_Bytes.f b.1 b.2 a1).bind fun c =>
    if c.1.size ≤ 8 then (if Go.Proofs.Ytbeegnajghkhoaa.Oct.wideU (Go.Proofs.Ytbeegnajghkhoaa.BR.ints c.1) < 9223372036854775808 then some (Go.Proofs.Ytbeegnajghkhoaa.Oct.wideU (Go.Proofs.Ytbeegnajghkhoaa.BR.ints c.1), c.2.1, c.2.2) else (octet_Reader_Refuse.f c.2.1 c.2.2 1).bind fun d => some (0, b.1, d.2)) else none
set_option maxHeartbeats 4000000 in
set_option maxRecDepth 100000 in
theorem octet_Reader_Wide.calls (g : Nat) (s0_0 : ByteArray) (s0_1 : Int) (a1 : Int) (r1 : Int) (r2 : ByteArray) (r3 : Int) (w0 w : World) (hI : IsS59 w0 w g s0_0 s0_1) (hB : Below w0.heap.size w0 w) (h : octet_Reader_Wide.f s0_0 s0_1 a1 = some (r1, r2, r3)) :
    Calls Try.prog 25 #[.pointer (some ⟨g, 0, none⟩), .int .i64 a1] w fun e w' => e = .returned (.int .i64 r1) ∧ IsS59 w0 w' g r2 r3 ∧ Below w0.heap.size w0 w' ∧ KeepBut w w' g none := by
  have hg := hI.2
  unfold octet_Reader_Wide.f at h
  obtain ⟨⟨s1, c1⟩, h1, h⟩ := Option.bind_eq_some_iff.mp h
  obtain ⟨⟨t, s2, c2⟩, h2, h⟩ := Option.bind_eq_some_iff.mp h
  by_cases hs : t.size ≤ 8
  case neg => rw [if_neg hs] at h; cases h
  rw [if_pos hs] at h
  have H2 := Lib.hid h2
  have H3 := Lib.hid h
  clear h2 h
  have HI := Aside0.mk hI
  have HB := Aside0.mk hB
  clear hI hB
  have H1 := Lib.hid h1
  clear h1
  go_enter Try.func25, Try.ntmps25
  go_upto_region 1 with (fail)
  go_cut [14] (fun v14 wc => v14 = .bool (decide (a1 < 1 ∨ 8 < a1)) ∧ w = wc)
  case first =>
    by_cases hw1 : a1 < 1
    · have e : decide (a1 < 1 ∨ 8 < a1) = true := decide_eq_true (.inl hw1)
      have HE := Lib.hid e
      clear e
      go_wp2_with fail
      go_meet
      case rel => exact ⟨by rw [HE.out], rfl⟩
    · by_cases hw2 : 8 < a1
      · have e : decide (a1 < 1 ∨ 8 < a1) = true := decide_eq_true (.inr hw2)
        have HE := Lib.hid e
        clear e
        go_wp2_with fail
        go_meet
        case rel => exact ⟨by rw [HE.out], rfl⟩
      · have e : decide (a1 < 1 ∨ 8 < a1) = false := decide_eq_false (by omega)
        have HE := Lib.hid e
        clear e
        go_wp2_with fail
        go_meet
        case rel => exact ⟨by rw [HE.out], rfl⟩
  case rest =>
  obtain ⟨rfl, rfl⟩ := hcut
  go_upto_if 14 with (fail)
  go_cut [4] (fun v4 wc => v4 = .int .i64 0 ∧ Aside0 (IsS59 w0 wc g s1 c1) ∧ Aside0 (Below w0.heap.size w0 wc) ∧ Aside0 (KeepBut w wc g none))
  case first =>
    have h1 := H1.out
    by_cases hw : a1 < 1 ∨ 8 < a1
    · rw [if_pos hw] at h1
      have H1' := Lib.hid h1
      clear h1 H1
      rw [decide_eq_true hw]
      clear hw
      go_wp2_with fail
      refine (octet_Reader_Refuse.calls g s0_0 s0_1 1 s1 c1 w0 w HI.out HB.out H1'.out).mono ?_
      rintro e W1 ⟨rfl, hi1, hb1, hk1⟩
      go_wp2_with fail
      go_meet
      case rel => exact ⟨rfl, ⟨hi1⟩, ⟨hb1⟩, ⟨hk1⟩⟩
    · rw [if_neg hw] at h1
      injection h1 with h1
      injection h1 with h1 h2
      subst h1
      subst h2
      rw [decide_eq_false hw]
      clear hw
      go_wp2_with fail
      go_meet
      case rel => exact ⟨rfl, HI, HB, ⟨KeepBut.refl _ _ _⟩⟩
  case rest =>
    obtain ⟨rfl, HI1, HB1, HK1⟩ := hcut
    have HG1 := HI1.out.1
    have hc0 := cellS59_0 HG1
    have hc1 := cellS59_1 HG1
    clear HG1 HI HB
    go_wp2_with fail
    refine (octet_Reader_Bytes.calls g s1 c1 a1 t s2 c2 w0 wc HI1.out HB1.out H2.out).mono ?_
    rintro e W2 ⟨rfl, hi2, hb2, hk2⟩
    have hrow := Go.Proofs.Ytbeegnajghkhoaa.BR.bytesWorld_row W2 5 t (by unfold maxLen; omega)
    have hbel := Go.Proofs.Ytbeegnajghkhoaa.BR.bytesWorld_below W2 5 t
    have kc := Lib.run_convert_string_bytes (P := Try.prog) W2 9 53 5 t Try.underlying9 Try.underlying53 Try.underlying5
    generalize Lib.bytesWorld W2 5 t = W3 at kc hrow hbel
    generalize grownCap W2 t.size 0 5 = cp at kc hrow
    have HR := Lib.hid hrow
    have HI3 := Aside0.mk (hi2.below hbel)
    have HB3 := Aside0.mk (hb2.trans (hbel.mono hb2.size))
    have HK3 := Aside0.mk ((HK1.out.trans hk2 (.inl rfl)).trans (KeepBut.of_below hbel g none) (.inl rfl))
    clear hrow hbel hi2 hb2 hk2 HI1 HB1 HK1 hc0 hc1
    have hil : (Go.Proofs.Ytbeegnajghkhoaa.BR.ints t).length = t.size := by simp [Go.Proofs.Ytbeegnajghkhoaa.BR.ints]
    have HL := Lib.hid hil
    clear hil
    go_wp2_with fail
    go_loop [6, 26] (fun n i => ∃ k : Nat, k ≤ t.size ∧ i = .int .i64 k ∧ n = .int .u64 (Go.Proofs.Ytbeegnajghkhoaa.Oct.wideU ((Go.Proofs.Ytbeegnajghkhoaa.BR.ints t).take k))) (fun _ i => t.size - (intOf i).toNat)
    case atStart => exact ⟨0, Nat.zero_le _, rfl, rfl⟩
    case round =>
      obtain ⟨k, hk, rfl, rfl⟩ := hrel
      by_cases hlt : k < t.size
      · have hc := HR.out.cell k (by rw [HL.out]; exact hlt)
        have HS := Lib.hid (Go.Proofs.Ytbeegnajghkhoaa.Oct.wideU_snoc (Go.Proofs.Ytbeegnajghkhoaa.BR.ints t) k (by rw [HL.out]; exact hlt))
        have hb0 := Go.Proofs.Ytbeegnajghkhoaa.Oct.ints_range t k
        have hw := Lib.hid (show IntKind.u64.wrap ((Go.Proofs.Ytbeegnajghkhoaa.BR.ints t).getD k 0) = (Go.Proofs.Ytbeegnajghkhoaa.BR.ints t).getD k 0 by rw [IntKind.wrap_u64]; omega)
        clear hb0
        go_wp2_with fail
        go_round
        case rel => exact ⟨k + 1, by omega, rfl, by rw [HS.out]; exact congrArg (fun z => Value.int .u64 (Go.bits .or .u64 _ z)) hw.out⟩
        case measure => simp [intOf]; omega
      · obtain rfl : k = t.size := by omega
        have htk : (Go.Proofs.Ytbeegnajghkhoaa.BR.ints t).take t.size = Go.Proofs.Ytbeegnajghkhoaa.BR.ints t := List.take_of_length_le (by rw [HL.out]; exact Nat.le_refl _)
        rw [htk]
        have hr := Lib.hid (Go.Proofs.Ytbeegnajghkhoaa.Oct.wideU_range (Go.Proofs.Ytbeegnajghkhoaa.BR.ints t))
        have h3 := H3.out
        by_cases hbig : Go.Proofs.Ytbeegnajghkhoaa.Oct.wideU (Go.Proofs.Ytbeegnajghkhoaa.BR.ints t) < 9223372036854775808
        · rw [if_pos hbig] at h3
          injection h3 with h3
          simp only [Prod.mk.injEq] at h3
          obtain ⟨rfl, rfl, rfl⟩ := h3
          have hwr := Lib.hid (show wrap64 (Go.Proofs.Ytbeegnajghkhoaa.Oct.wideU (Go.Proofs.Ytbeegnajghkhoaa.BR.ints t)) = Go.Proofs.Ytbeegnajghkhoaa.Oct.wideU (Go.Proofs.Ytbeegnajghkhoaa.BR.ints t) by have := hr.out; unfold wrap64; omega)
          go_wp2_with fail
          go_ret
          exact ⟨by show Ending.returned (.int .i64 (wrap64 _)) = _; rw [hwr.out], HI3.out, HB3.out, HK3.out⟩
        · rw [if_neg hbig] at h3
          obtain ⟨⟨s3, c3⟩, h4, h3⟩ := Option.bind_eq_some_iff.mp h3
          injection h3 with h3
          simp only [Prod.mk.injEq] at h3
          obtain ⟨rfl, rfl, rfl⟩ := h3
          have H4 := Lib.hid h4
          clear h4 H3
          go_wp2_with fail
          refine (octet_Reader_Refuse.calls g s2 c2 1 s3 c3 w0 W3 HI3.out HB3.out H4.out).mono ?_
          rintro e W4 ⟨rfl, hi4, hb4, hk4⟩
          have HG4 := hi4.1
          have hd0 := cellS59_0 HG4
          have hf0 := blk_frozen HG4 0
          have HI4 := Aside0.mk hi4
          have HB4 := Aside0.mk hb4
          have HK4 := Aside0.mk (HK3.out.trans hk4 (.inl rfl))
          clear HG4 hi4 hb4 hk4
          go_wp2_with fail
          go_ret
          exact ⟨rfl, HI4.out.set_0 _, below_set HB4.out hg, HK4.out.set_ _ _⟩

end Go.Proofs.Ytbeegnajghkhoaa.Px
