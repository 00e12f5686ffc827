-- Laid by wip/hprint.py: the kit's print of the translation, turned in places, beside contracts that this session wrote by hand; Lean checks all of it.
import Derived.Test.YtejifcboopifaaaDoorPx0
import Derived.Test.YtejifcboopifaaaDoorPx1
import Derived.Test.YtejifcboopifaaaDoorPx2
namespace Go.Proofs.YtejifcboopifaaaDoor.Px
open Go.RowKit Go.Proofs.YtejifcboopifaaaDoorW.PrintWords Go.Proofs.YtejifcboopifaaaDoorW.PrintLast Go.Proofs.YtejifcboopifaaaDoorW.PrintMore
attribute [local go_sem] max2_int min2_int max_two min_two max_three min_three max_four min_four   -- for this text's walks alone
set_option linter.unusedVariables false
set_option linter.unusedSimpArgs false

/-! ### crc_Tag: function 7, by hand -/
def crc_Tag.sh : Nat → Int → Int
  | 0, t => t
  | k + 1, t => crc_Tag.sh k t / 256
def crc_Tag.le (k : Nat) (t : Int) : List Int := (List.range k).map fun i => crc_Tag.sh i t % 256
theorem crc_Tag.le_succ (k : Nat) (t : Int) : crc_Tag.le (k + 1) t = crc_Tag.le k t ++ [crc_Tag.sh k t % 256] := by
  simp [crc_Tag.le, List.range_succ]
theorem crc_Tag.le_length (k : Nat) (t : Int) : (crc_Tag.le k t).length = k := by simp [crc_Tag.le]
def crc_Tag.f (a0 : ByteArray) : Option ByteArray := if a0.size ≤ 1073741824 then (crc_Sum.f a0).bind fun t => some (strOfNums (Go.Proofs.YtejifcboopifaaaDoor.BR.ints a0 ++ crc_Tag.le 4 t)) else none
theorem crc_Tag.info : (Tryd.prog.info? 5).map (fun i => (i.zero, i.size, i.bytes)) = some (some (.int .u8 0), 1, 1) := by kernel_rfl
set_option maxHeartbeats 1000000 in
set_option maxRecDepth 100000 in
theorem crc_Tag.calls (a0 : ByteArray) (r : ByteArray) (w : World) (HT : Aside0 (TabW w)) (h : crc_Tag.f a0 = some r) :
    Calls Tryd.prog 7 #[.string a0] w fun e w' => e = .returned (.string r) ∧ Below w.heap.size w w' := by
  unfold crc_Tag.f at h
  split at h
  case isFalse => simp at h
  rename_i hs
  obtain ⟨t, ht, h⟩ := Option.bind_eq_some_iff.mp h
  injection h with h
  have hil : (Go.Proofs.YtejifcboopifaaaDoor.BR.ints a0).length = a0.size := by simp [Go.Proofs.YtejifcboopifaaaDoor.BR.ints]
  have Hr := Lib.hid h
  have HS := Lib.hid ht
  have HL := Lib.hid hil
  clear h ht hil
  have hrow := Go.Proofs.YtejifcboopifaaaDoor.BR.bytesWorld_row w 5 a0 (by unfold maxLen; omega)
  have hbel := Go.Proofs.YtejifcboopifaaaDoor.BR.bytesWorld_below w 5 a0
  have kc := Lib.run_convert_string_bytes (P := Tryd.prog) w 9 27 5 a0 Tryd.underlying9 Tryd.underlying27 Tryd.underlying5
  generalize Lib.bytesWorld w 5 a0 = W1 at kc hrow hbel
  generalize grownCap w a0.size 0 5 = c0 at kc hrow
  have HR1 := Lib.hid hrow
  have HB1 := Aside0.mk hbel
  clear hrow hbel
  obtain ⟨i0, hi, hz0, hz1, hz2⟩ := info_parts crc_Tag.info
  go_enter Tryd.func7, Tryd.ntmps7
  go_wp2_with fail
  refine (crc_Sum.calls a0 t W1 ⟨HT.out.now HB1.out⟩ HS.out).mono ?_
  rintro e w1 ⟨rfl, hb⟩
  have hb1 := HB1.out.trans (hb.mono HB1.out.size)
  have HR := Lib.hid (HR1.out.below hb)
  have HB := Aside0.mk hb1
  clear hb HR1 HB1 hb1
  go_wp2_with fail
  go_loopw [3, 4] (fun v n wr => ∃ k g cap : Nat, k ≤ 4 ∧ v = .slice (some ⟨g, 0, none⟩) (a0.size + k) cap ∧ Hid (Go.Proofs.YtejifcboopifaaaDoor.BR.BRow wr w.heap.size 5 g cap (Go.Proofs.YtejifcboopifaaaDoor.BR.ints a0 ++ crc_Tag.le k t)) ∧ n = .int .i64 (crc_Tag.sh k t) ∧ Aside0 (Below w.heap.size w wr)) (fun v _ _ => match v with | .slice _ n _ => a0.size + 4 - n | _ => 0)
  case atStart => exact ⟨0, _, _, by omega, rfl, Lib.hid (by simpa [crc_Tag.le] using HR.out), rfl, HB⟩
  case round =>
    obtain ⟨k, g, cap, hk, rfl, HR', rfl, HB'⟩ := hrel
    by_cases hlt : k < 4
    · have hlt' : ((a0.size + k : Nat) : Int) < (a0.size : Int) + 4 := by omega
      have hw : w.heap.size ≤ wr.heap.size := HB'.out.size
      go_wp2_with (at_builtin; refine Go.Proofs.YtejifcboopifaaaDoor.BR.wpList_append_brow _ rfl _ _ 27 rfl w.heap.size 5 i0 (.int .u8 0) Tryd.underlying27 hi hz0 hz1 hz2 rfl g cap _ (HR'.out.alloc _) _ rfl ?hn ⟨wr.heap.size, 0, none⟩ (crc_Tag.sh k t % 256) 1 rfl ?hc rfl ?hbase ?hl ?_)
      case hn => simp [HL.out, crc_Tag.le_length]
      case hc => simp
      case hbase => simp; omega
      case hl => simp [HL.out, crc_Tag.le_length]; omega
      intro g' cap' w' hr' hb'
      have HR2 := Lib.hid hr'
      have HB2 := Aside0.mk ((HB'.out.alloc hw _).trans hb')
      clear hr' hb'
      go_wp2
      go_roundw
      case rel => exact ⟨k + 1, g', cap', by omega, by simp [HL.out, crc_Tag.le_length]; omega, Lib.hid (by rw [crc_Tag.le_succ]; exact HR2.out), rfl, HB2⟩
      case measure => simp [HL.out, crc_Tag.le_length]; omega
    · obtain rfl : k = 4 := by omega
      have hback := HR'.out.own_back (P := Tryd.prog) 27 Tryd.underlying27 Tryd.underlying5 9 Tryd.underlying9
      rw [List.length_append, HL.out, crc_Tag.le_length, Hr.out] at hback
      go_wp2
      go_ret
      exact ⟨rfl, HB'.out⟩

end Go.Proofs.YtejifcboopifaaaDoor.Px
