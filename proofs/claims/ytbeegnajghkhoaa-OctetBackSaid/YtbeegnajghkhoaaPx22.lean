-- Laid by wip/hprint.py: the kit's print of the translation, turned in places, beside contracts that this session wrote by hand; Lean checks all of it.
import Derived.Test.YtbeegnajghkhoaaPx0
import Derived.Test.YtbeegnajghkhoaaPx12
import Derived.Test.YtbeegnajghkhoaaPx15
import Derived.Test.YtbeegnajghkhoaaPx20
namespace Go.Proofs.Ytbeegnajghkhoaa.Px
open Go.RowKit Go.Proofs.YtbeegnajghkhoaaW.PrintWords Go.Proofs.YtbeegnajghkhoaaW.PrintLast Go.Proofs.YtbeegnajghkhoaaW.PrintMore
attribute [local go_sem] max2_int min2_int max_two min_two max_three min_three max_four min_four   -- for this text's walks alone
set_option linter.unusedVariables false
set_option linter.unusedSimpArgs false

/-! ### octet_Reader_Text: function 26, by hand -/
def octet_Reader_Text.f (s0_0 : ByteArray) (s0_1 : Int) (a1 : Int) : Option (ByteArray × ByteArray × Int) :=
  (octet_Reader_Groups.f 40 s0_0 s0_1 a1).bind fun b => (octet_Reader_Bytes.f b.2.1 b.2.2 b.1).bind fun c => if c.2.2 = 0 then some (c.1, c.2.1, c.2.2) else some (c.1, s0_0, c.2.2)
set_option maxHeartbeats 4000000 in
set_option maxRecDepth 100000 in
theorem octet_Reader_Text.calls (g : Nat) (s0_0 : ByteArray) (s0_1 : Int) (a1 : Int) (r1 : ByteArray) (r2 : ByteArray) (r3 : Int) (w0 w : World) (hI : IsS59 w0 w g s0_0 s0_1) (hB : Below w0.heap.size w0 w) (h : octet_Reader_Text.f s0_0 s0_1 a1 = some (r1, r2, r3)) :
    Calls Try.prog 26 #[.pointer (some ⟨g, 0, none⟩), .int .i64 a1] w fun e w' => e = .returned (.string r1) ∧ IsS59 w0 w' g r2 r3 ∧ Below w0.heap.size w0 w' ∧ KeepBut w w' g none := by
  unfold octet_Reader_Text.f at h
  obtain ⟨⟨n, s1, c1⟩, h1, h⟩ := Option.bind_eq_some_iff.mp h
  obtain ⟨⟨t, s2, c2⟩, h2, h⟩ := Option.bind_eq_some_iff.mp h
  have H1 := Lib.hid h1
  have H2 := Lib.hid h2
  have H3 := Lib.hid h
  clear h1 h2 h
  obtain ⟨HG, hg⟩ := hI
  have hc0 := cellS59_0 HG
  have hc1 := cellS59_1 HG
  have HI := Aside0.mk (show IsS59 w0 w g s0_0 s0_1 from ⟨HG, hg⟩)
  have HB := Aside0.mk hB
  clear HG hB
  go_enter Try.func26, Try.ntmps26
  go_wp2_with fail
  refine (octet_Reader_Groups.calls 40 g s0_0 s0_1 a1 n s1 c1 w0 w HI.out HB.out H1.out).mono ?_
  rintro e W1 ⟨rfl, hi1, hb1, hk1⟩
  have HI1 := Aside0.mk hi1
  have HB1 := Aside0.mk hb1
  have HK1 := Aside0.mk hk1
  clear hi1 hb1 hk1
  go_wp2_with fail
  refine (octet_Reader_Bytes.calls g s1 c1 n t s2 c2 w0 W1 HI1.out HB1.out H2.out).mono ?_
  rintro e W2 ⟨rfl, hi2, hb2, hk2⟩
  obtain ⟨HG2, _⟩ := hi2
  have hd0 := cellS59_0 HG2
  have hd1 := cellS59_1 HG2
  have hf0 := blk_frozen HG2 0
  have HI2 := Aside0.mk (show IsS59 w0 W2 g s2 c2 from ⟨HG2, hg⟩)
  have HB2 := Aside0.mk hb2
  have HK2 := Aside0.mk (HK1.out.trans hk2 (.inl rfl))
  clear HG2 hb2 hk2
  by_cases hz : c2 = 0
  · have h3 := H3.out
    rw [if_pos hz] at h3
    injection h3 with h3
    simp only [Prod.mk.injEq] at h3
    obtain ⟨rfl, rfl, rfl⟩ := h3
    have hzb : (c2 != 0) = false := bne_eq_false_iff_eq.mpr hz
    clear hz
    go_wp2_with fail
    go_ret
    exact ⟨rfl, HI2.out, HB2.out, HK2.out⟩
  · have h3 := H3.out
    rw [if_neg hz] at h3
    injection h3 with h3
    simp only [Prod.mk.injEq] at h3
    obtain ⟨rfl, rfl, rfl⟩ := h3
    have hzb : (c2 != 0) = true := bne_iff_ne.mpr hz
    clear hz
    go_wp2_with fail
    go_ret
    exact ⟨rfl, HI2.out.set_0 _, below_set HB2.out hg, HK2.out.set_ _ _⟩

end Go.Proofs.Ytbeegnajghkhoaa.Px
