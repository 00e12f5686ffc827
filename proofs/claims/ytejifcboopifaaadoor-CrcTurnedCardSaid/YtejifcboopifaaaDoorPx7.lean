-- Laid by wip/hprint.py: the kit's print of the translation, turned in places, beside contracts that this session wrote by hand; Lean checks all of it.
import Derived.Test.YtejifcboopifaaaDoorPx0
import Derived.Test.YtejifcboopifaaaDoorPx1
import Derived.Test.YtejifcboopifaaaDoorPx3
import Derived.Test.YtejifcboopifaaaDoorPx4
import Derived.Test.YtejifcboopifaaaDoorPx5
import Derived.Test.YtejifcboopifaaaDoorPx6
namespace Go.Proofs.YtejifcboopifaaaDoor.Px
open Go.RowKit Go.Proofs.YtejifcboopifaaaDoorW.PrintWords Go.Proofs.YtejifcboopifaaaDoorW.PrintLast Go.Proofs.YtejifcboopifaaaDoorW.PrintMore
attribute [local go_sem] max2_int min2_int max_two min_two max_three min_three max_four min_four   -- for this text's walks alone
set_option linter.unusedVariables false
set_option linter.unusedSimpArgs false

/-! ### gonglaw02_CrcTurned: function 3, by hand -/
def gonglaw02_CrcTurned.Good (a0 : ByteArray) (a1 a2 : Int) : Prop := gonglaw02_works.f = some true ∧ (a0.size ≤ 2000 → ∃ (t u : ByteArray) (p : Nat) (ok : Bool),
  crc_Tag.f a0 = some t ∧ crc_Open.f t = some (a0, true) ∧ t.size = a0.size + 4 ∧ gongbook_Below.f a1 (8 * (t.size : Int) - 31) = some (p : Int) ∧ p + 32 ≤ 8 * t.size ∧
  crc_Open.f (strOfNums (Go.Proofs.YtejifcboopifaaaDoor.Turn.turnI (Go.Proofs.YtejifcboopifaaaDoor.BR.ints t) p a2 32)) = some (u, ok) ∧ ok = decide (a2 = 0) ∧ (ok = false → u = ⟨#[]⟩))
def gonglaw02_CrcTurned.Pure : Prop := ∀ (a0 : ByteArray) (a1 : Int) (a2 : Int), a0.size ≤ 140737488351232 → (Lit.int .i64 a1).wf = true → (Lit.int .u32 a2).wf = true → gonglaw02_CrcTurned.Good a0 a1 a2
set_option maxHeartbeats 4000000 in
set_option maxRecDepth 100000 in
theorem gonglaw02_CrcTurned.walk (P : gonglaw02_CrcTurned.Pure) (a0 : ByteArray) (a1 : Int) (a2 : Int) (w : World) (HT : TabW w) (w0 : a0.size ≤ 140737488351232) (w1 : (Lit.int .i64 a1).wf = true) (w2 : (Lit.int .u32 a2).wf = true) :
    Calls Tryd.prog 3 #[.string a0, .int .i64 a1, .int .u32 a2] w fun e w' => e = .returned (.bool true) ∧ Below w.heap.size w w' := by
  obtain ⟨hw, hg⟩ := P a0 a1 a2 w0 w1 w2
  have HW := Lib.hid hw
  have HT' := Aside0.mk HT
  clear P hw HT w1 w2
  by_cases h2 : a0.size ≤ 2000
  · obtain ⟨t, u, p, ok, h1, h3, h4, h5, h6, h7, h8, h9⟩ := hg h2
    have H1 := Lib.hid h1
    have H3 := Lib.hid h3
    have H4 := Lib.hid h4
    have H5 := Lib.hid h5
    have H7 := Lib.hid h7
    have H8 := Lib.hid h8
    have H9 := Lib.hid h9
    have h4' : t.size ≤ a0.size + 4 := by omega
    clear h1 h3 h4 h5 h7 h8 h9 hg
    go_enter Tryd.func3, Tryd.ntmps3
    go_wp2_with fail
    refine (gonglaw02_works.calls true w HT' HW.out).mono ?_
    rintro e W1 ⟨rfl, hb⟩
    have HB1 := Aside0.mk hb
    clear hb
    go_wp2_with fail
    refine (crc_Tag.calls a0 t W1 ⟨HT'.out.now HB1.out⟩ H1.out).mono ?_
    rintro e W2 ⟨rfl, hb⟩
    have n1 := Aside0.mk (HB1.out.trans (hb.mono HB1.out.size))
    clear hb HB1
    have HB1 := n1
    clear n1
    go_wp2_with fail
    refine (crc_Open.calls t a0 true W2 ⟨HT'.out.now HB1.out⟩ H3.out).mono ?_
    rintro e W3 ⟨rfl, hb⟩
    have n1 := Aside0.mk (HB1.out.trans (hb.mono HB1.out.size))
    clear hb HB1
    have HB1 := n1
    clear n1
    have hrow := Go.Proofs.YtejifcboopifaaaDoor.BR.bytesWorld_row W3 5 t (by unfold maxLen; omega)
    have hbel := Go.Proofs.YtejifcboopifaaaDoor.BR.bytesWorld_below W3 5 t
    have kc := Lib.run_convert_string_bytes (P := Tryd.prog) W3 9 27 5 t Tryd.underlying9 Tryd.underlying27 Tryd.underlying5
    generalize Lib.bytesWorld W3 5 t = W4 at kc hrow hbel
    generalize grownCap W3 t.size 0 5 = c0 at kc hrow
    have HR := Lib.hid hrow
    have HB := Aside0.mk (HB1.out.trans (hbel.mono HB1.out.size))
    have hW3 : w.heap.size ≤ W3.heap.size := HB1.out.size
    clear hrow hbel HB1
    have c4 : ((t.size : Int) == (a0.size : Int) + 4) = true := by rw [beq_iff_eq, H4.out]; omega
    have c4' : ((t.size : Int) != (a0.size : Int) + 4) = false := by rw [bne_eq_false_iff_eq, H4.out]; omega
    go_wp2_with fail
    refine (gongbook_Below.calls a1 (8 * (t.size : Int) - 31) p W4 H5.out).mono ?_
    rintro e W5 ⟨rfl, ⟨nd, rfl⟩⟩
    go_wp2_with fail
    go_loopw [47, 11] (fun i _ wr => ∃ k : Nat, k ≤ 32 ∧ i = .int .i64 k ∧ Hid (Go.Proofs.YtejifcboopifaaaDoor.BR.BRow wr W3.heap.size 5 W3.heap.size c0 (Go.Proofs.YtejifcboopifaaaDoor.Turn.turnI (Go.Proofs.YtejifcboopifaaaDoor.BR.ints t) p a2 k)) ∧ Aside0 (Below w.heap.size w wr)) (fun i _ _ => 32 - (intOf i).toNat)
    case atStart => exact ⟨0, by omega, rfl, Lib.hid (HR.out.drewN _), Aside0.mk (by exact below_drewN HB.out _)⟩
    case round =>
      obtain ⟨k, hk, rfl, HR', HB'⟩ := hrel
      by_cases hlt : k < 32
      · by_cases hx : Go.bits .and .u32 (a2 / 2 ^ k) 1 = 1
        · have hxb : (Go.bits .and .u32 (a2 / 2 ^ k) 1 == 1) = true := beq_iff_eq.mpr hx
          have hX := Lib.hid hx
          clear hx
          have hlen : (Go.Proofs.YtejifcboopifaaaDoor.Turn.turnI (Go.Proofs.YtejifcboopifaaaDoor.BR.ints t) p a2 k).length = t.size := by rw [Go.Proofs.YtejifcboopifaaaDoor.Turn.turnI_length]; simp [Go.Proofs.YtejifcboopifaaaDoor.BR.ints]
          have i0 : 0 ≤ ((p : Int) + (k : Int)) / 8 := by omega
          have i1 : ((p : Int) + (k : Int)) / 8 < (t.size : Int) := by omega
          have eq8 : (((p : Int) + (k : Int)) / 8).toNat = (p + k) / 8 := by omega
          have hc := HR'.out.cell ((p + k) / 8) (by omega)
          have hf := HR'.out.free ((p + k) / 8) (by have := HR'.out.le; omega)
          have hs := Lib.hid (HR'.out.set ((p + k) / 8) (Go.bits .xor .u8 ((Go.Proofs.YtejifcboopifaaaDoor.Turn.turnI (Go.Proofs.YtejifcboopifaaaDoor.BR.ints t) p a2 k).getD ((p + k) / 8) 0) (2 ^ ((p + k) % 8) % 256)))
          have HE := Lib.hid eq8
          have HL := Lib.hid hlen
          clear eq8 hlen
          go_wp2_with fail
          go_region
          go_wp2_with fail
          exact ⟨⟨k + 1, by omega, rfl, Lib.hid (by rw [Go.Proofs.YtejifcboopifaaaDoor.Turn.turnI_yes hX.out]; exact hs.out.drew), Aside0.mk (HB'.out.setCell hW3 _).drew⟩, by simp [intOf]; omega⟩
        · have hxb : (Go.bits .and .u32 (a2 / 2 ^ k) 1 == 1) = false := beq_eq_false_iff_ne.mpr hx
          have hX := Lib.hid hx
          clear hx
          go_wp2_with fail
          exact ⟨⟨k + 1, by omega, rfl, Lib.hid (by rw [Go.Proofs.YtejifcboopifaaaDoor.Turn.turnI_no hX.out]; exact HR'.out), HB'⟩, by simp [intOf]; omega⟩
      · obtain rfl : k = 32 := by omega
        have hback := HR'.out.own_back (P := Tryd.prog) 27 Tryd.underlying27 Tryd.underlying5 9 Tryd.underlying9
        have hlen : (Go.Proofs.YtejifcboopifaaaDoor.Turn.turnI (Go.Proofs.YtejifcboopifaaaDoor.BR.ints t) p a2 32).length = t.size := by rw [Go.Proofs.YtejifcboopifaaaDoor.Turn.turnI_length]; simp [Go.Proofs.YtejifcboopifaaaDoor.BR.ints]
        rw [hlen] at hback
        have HL := Lib.hid hlen
        clear hlen
        go_wp2_with fail
        refine (crc_Open.calls _ u ok _ ⟨HT'.out.now HB'.out⟩ H7.out).mono ?_
        rintro e W6 ⟨rfl, hb⟩
        have HB6 := Aside0.mk (HB'.out.trans (hb.mono HB'.out.size))
        clear hb
        by_cases hz : a2 = 0
        · have h8 : ok = true := by rw [H8.out, decide_eq_true hz]
          subst h8
          have hzb : (a2 == 0) = true := beq_iff_eq.mpr hz
          clear hz
          go_wp2_with fail
          go_ret
          exact ⟨rfl, HB6.out⟩
        · have h8 : ok = false := by rw [H8.out, decide_eq_false hz]
          have h9 := H9.out h8
          subst h8
          subst h9
          have hzb : (a2 == 0) = false := beq_eq_false_iff_ne.mpr hz
          clear hz
          go_wp2_with fail
          go_ret
          exact ⟨rfl, HB6.out⟩
  · clear hg
    have h2' : 2000 < (a0.size : Int) := by omega
    go_enter Tryd.func3, Tryd.ntmps3
    go_wp2_with fail
    refine (gonglaw02_works.calls true w HT' HW.out).mono ?_
    rintro e W1 ⟨rfl, hb⟩
    go_wp2
    go_ret
    exact ⟨rfl, hb⟩

end Go.Proofs.YtejifcboopifaaaDoor.Px
