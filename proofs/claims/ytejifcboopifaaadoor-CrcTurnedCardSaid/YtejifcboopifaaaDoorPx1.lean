-- Laid by wip/hprint.py: the kit's print of the translation, turned in places, beside contracts that this session wrote by hand; Lean checks all of it.
import Derived.Test.YtejifcboopifaaaDoorPx0
namespace Go.Proofs.YtejifcboopifaaaDoor.Px
open Go.RowKit Go.Proofs.YtejifcboopifaaaDoorW.PrintWords Go.Proofs.YtejifcboopifaaaDoorW.PrintLast Go.Proofs.YtejifcboopifaaaDoorW.PrintMore
attribute [local go_sem] max2_int min2_int max_two min_two max_three min_three max_four min_four   -- for this text's walks alone
set_option linter.unusedVariables false
set_option linter.unusedSimpArgs false

/-! ### crc_behind: function 18, by hand -/
def TabW (w : World) : Prop := Lib.TabIs Tryd.prog w "gong/crc.half" .u32 Go.Proofs.YtejifcboopifaaaDoor.Crc.halfL
theorem half_at : Tryd.prog.globalNamed "gong/crc.half" = some 0 := by kernel_rfl
theorem TabW.below {B : Nat} {w w' : World} (h : TabW w) (hb : Below B w w') (hB : 0 < B) : TabW w' := var?_below hb half_at hB h
theorem TabW.pos {w : World} (h : TabW w) : 0 < w.heap.size := by
  unfold TabW Lib.TabIs World.var? at h
  rw [half_at] at h
  simp only [Option.bind_some] at h
  rcases Nat.lt_or_ge 0 w.heap.size with h' | h'
  · exact h'
  · simp [Array.getElem?_eq_none h'] at h
theorem TabW.now {w w' : World} (h : TabW w) (hb : Below w.heap.size w w') : TabW w' := h.below hb h.pos
theorem take_snoc (s : ByteArray) (k : Nat) (h : k < s.size) : s.data.toList.take (k + 1) = s.data.toList.take k ++ [s[k]] := by
  rw [List.take_succ_eq_append_getElem (by simpa using h)]; rfl
def crc_behind.f (a0 : Int) (a1 : ByteArray) : Option Int := if a1.size ≤ 140737488355328 then some (Go.Proofs.YtejifcboopifaaaDoor.Crc.behindI a0 a1.data.toList) else none
theorem TabW.cell {w : World} (h : TabW w) (i : Nat) (hi : i < 16) : w.cell? ⟨0, i, none⟩ = some (.int .u32 (Go.Proofs.YtejifcboopifaaaDoor.Crc.halfL.getD i 0)) :=
  Lib.TabIs.cell h half_at i (by simpa [Go.Proofs.YtejifcboopifaaaDoor.Crc.halfL] using hi)
set_option maxHeartbeats 1000000 in
theorem crc_behind.calls (a0 : Int) (a1 : ByteArray) (r : Int) (w : World) (HT : Aside0 (TabW w)) (h : crc_behind.f a0 a1 = some r) :
    Calls Tryd.prog 18 #[.int .u32 a0, .string a1] w fun e w' => e = .returned (.int .u32 r) ∧ Below w.heap.size w w' := by
  unfold crc_behind.f at h
  split at h
  case isFalse => simp at h
  rename_i hs
  injection h with h
  subst h
  have hcell : ∀ c : Int, w.cell? ⟨0, (Go.bits .and .u32 c 15).toNat, none⟩ = some (.int .u32 (Go.Proofs.YtejifcboopifaaaDoor.Crc.halfL.getD (Go.bits .and .u32 c 15).toNat 0)) := fun c => by
    refine HT.out.cell _ ?_
    rw [Go.Proofs.YtejifcboopifaaaDoor.Crc.and15]
    omega
  have ha0 : ∀ c : Int, 0 ≤ Go.bits .and .u32 c 15 := fun c => by rw [Go.Proofs.YtejifcboopifaaaDoor.Crc.and15]; omega
  have ha1 : ∀ c : Int, Go.bits .and .u32 c 15 < 16 := fun c => by rw [Go.Proofs.YtejifcboopifaaaDoor.Crc.and15]; omega
  go_enter Tryd.func18, Tryd.ntmps18
  go_wp2
  go_loop [0, 8] (fun c i => ∃ k : Nat, k ≤ a1.size ∧ i = .int .i64 k ∧ c = .int .u32 (Go.Proofs.YtejifcboopifaaaDoor.Crc.behindI a0 (a1.data.toList.take k))) (fun _ i => a1.size - (intOf i).toNat)
  case atStart => exact ⟨0, Nat.zero_le _, rfl, rfl⟩
  case round =>
    obtain ⟨k, hk, rfl, rfl⟩ := hrel
    by_cases hlt : k < a1.size
    · have hb : ((a1[k].toNat : Int)) % 4294967296 = (a1[k].toNat : Int) := by have := a1[k].toNat_lt; omega
      have HS := Lib.hid (Go.Proofs.YtejifcboopifaaaDoor.Crc.behindI_snoc a0 (a1.data.toList.take k) a1[k])
      have HTk := Lib.hid (take_snoc a1 k hlt)
      go_wp2
      go_round
      case rel => exact ⟨k + 1, by omega, by go_num, by rw [HTk.out, HS.out]; rfl⟩
      case measure => simp [intOf]; omega
    · go_wp2
      go_ret
      exact ⟨by rw [List.take_of_length_le (by simp; omega)]; rfl, Below.refl _ _⟩

end Go.Proofs.YtejifcboopifaaaDoor.Px
