/- The statement CrcSums over whole numbers and lists alone: of at most 5000 bytes the program's sums are the document's. -/
import Derived.Test.YtejifcboopifaaaDoorPx16
import Derived.Test.YtejifcboopifaaaDoorPx3
import Derived.Test.YtejifcboopifaaaDoorPx9
import Derived.Test.YtejifcboopifaaaDoorPx11
import Derived.Test.YtejifcboopifaaaDoorCrcR
namespace Go.Proofs.YtejifcboopifaaaDoor.CrcB
open Go Go.RowKit Go.Proofs.YtejifcboopifaaaDoor.Px Go.Proofs.YtejifcboopifaaaDoorW.PrintWords Go.Proofs.YtejifcboopifaaaDoor.Str

theorem works_f : gonglaw02_works.f = some true := by
  unfold gonglaw02_works.f
  rw [sum_f _ (by decide)]
  decide +kernel
theorem isSum_f (x : Int) : crc_isSum.f x = some (decide (0 ≤ x ∧ x ≤ 4294967295)) := by
  unfold crc_isSum.f
  by_cases h : x ≥ 0
  · rw [if_pos h]
    congr 1
    have : (0 ≤ x ∧ x ≤ 4294967295) ↔ x ≤ 4294967295 := by omega
    simp only [this]
  · rw [if_neg h]
    congr 1
    symm
    rw [decide_eq_false_iff_not]
    omega
theorem more_f (x : Int) (s : ByteArray) (h : s.size ≤ 140737488355328) :
    crc_More.f x s = some (if 0 ≤ x ∧ x ≤ 4294967295 then (I (run (B x ^^^ all) s.data.toList ^^^ all), 0) else (0, 1)) := by
  unfold crc_More.f
  rw [isSum_f]
  simp only [Option.bind_some, decide_eq_true_eq]
  by_cases hx : 0 ≤ x ∧ x ≤ 4294967295
  · rw [if_pos hx, if_pos hx, show x % 4294967296 = x by omega, I_all, ← I_B hx.1 (by omega), xor_II, behind_f _ _ h]
    simp only [Option.bind_some]
    rw [xor_II, I_B hx.1 (by omega), BitVec.xor_comm all (B x), BitVec.xor_comm all]
    have := I_range (run (B x ^^^ all) s.data.toList ^^^ all)
    rw [wrap64_id (by omega) (by omega)]
  · rw [if_neg hx, if_neg hx]
theorem ref_More_l0 (s : ByteArray) (hs : s.size ≤ 1073741824) (d : Nat) : ∀ (c : W) (i : Nat), s.size = i + d → Ev (fun k => gongref02_More.l0 k s (I c) (i : Int)) (I (run c (s.data.toList.drop i) ^^^ all), 0) := by
  induction d with
  | zero =>
    intro c i hi
    refine Ev.step (f := fun _ => some (I (c ^^^ all), 0)) (fun k => ?_) ?_
    · simp only [gongref02_More.l0]
      rw [if_neg (by omega), I_all, xor_II]
      have := I_range (c ^^^ all)
      rw [wrap64_id (by omega) (by omega)]
    · rw [List.drop_of_length_le (by simp; omega), run_nil]
      exact Ev.now _
  | succ d ih =>
    intro c i hi
    have hlt : i < s.size := by omega
    have hc : (i : Int) < (s.size : Int) := by omega
    refine Ev.step (f := fun k => (gongref02_step.f k (I c) (bt s (i : Int))).bind fun t => gongref02_More.l0 k s t (wrap64 ((i : Int) + 1))) (fun k => ?_) ?_
    · simp only [gongref02_More.l0]
      rw [if_pos hc, if_pos (by omega)]
    · refine Ev.bind (ref_step_ev c _ (s.data.toList.getD i 0) (bt_L hlt)) ?_
      rw [run_drop c _ i (by simpa using hlt), wrap64_id (by omega) (by omega)]
      exact ih _ (i + 1) (by omega)
theorem ref_More_ev (x : Int) (s : ByteArray) (h : s.size ≤ 1073741824) :
    Ev (fun k => gongref02_More.f k x s) (if 0 ≤ x ∧ x ≤ 4294967295 then (I (run (B x ^^^ all) s.data.toList ^^^ all), 0) else (0, 1)) := by
  have hj : ∀ b, Ev (fun k => gongref02_More.j0 k x s b) (if b = true then (0, 1) else (I (run (B (x % 4294967296) ^^^ all) s.data.toList ^^^ all), 0)) := by
    intro b
    cases b with
    | true => exact Ev.step (f := fun _ => some (0, 1)) (fun k => by simp [gongref02_More.j0]) (Ev.now _)
    | false =>
      have := ref_More_l0 s h s.size (B (x % 4294967296) ^^^ all) 0 (by omega)
      rw [List.drop_zero] at this
      refine Ev.step (f := fun k => gongref02_More.l0 k s (I (B (x % 4294967296) ^^^ all)) ((0 : Nat) : Int)) (fun k => ?_) (by simpa using this)
      simp only [gongref02_More.j0]
      rw [if_neg (by decide), I_all]
      have e : x % 4294967296 = I (B (x % 4294967296)) := (I_B (by omega) (by omega)).symm
      rw [e, xor_II, ← e]
      rfl
  unfold gongref02_More.f
  by_cases h0 : x < 0
  · rw [if_neg (by omega)]
    exact Ev.congr (f := fun k => gongref02_More.j0 k x s true) (fun k => by rw [if_pos h0]) (hj true)
  · by_cases h1 : x > 4294967295
    · rw [if_neg (by omega)]
      exact Ev.congr (f := fun k => gongref02_More.j0 k x s true) (fun k => by rw [if_neg h0, decide_eq_true h1]) (hj true)
    · rw [if_pos (by omega)]
      have := hj false
      rw [if_neg (by decide), show x % 4294967296 = x by omega] at this
      exact Ev.congr (f := fun k => gongref02_More.j0 k x s false) (fun k => by rw [if_neg h0, decide_eq_false h1]) this
end Go.Proofs.YtejifcboopifaaaDoor.CrcB
namespace Go.Proofs.YtejifcboopifaaaDoor.Pure
open Go Go.RowKit Go.Proofs.YtejifcboopifaaaDoor.Px Go.Proofs.YtejifcboopifaaaDoorW.PrintWords Go.Proofs.YtejifcboopifaaaDoor.Str Go.Proofs.YtejifcboopifaaaDoor.CrcB
theorem CrcSums : gonglaw02_CrcSums.Pure := by
  intro s x hs _
  apply Ev.rounds
  unfold gonglaw02_CrcSums.f
  by_cases h5 : (s.size : Int) > 5000
  · refine Ev.congr (f := fun _ => some true) (fun k => ?_) (Ev.now _)
    rw [if_pos h5, works_f]
    rfl
  · simp only [if_neg h5]
    rw [more_f x s (by omega)]
    simp only [Option.bind_some]
    refine Ev.bind (ref_More_ev x s (by omega)) ?_
    rw [open_f s (by omega)]
    simp only [Option.bind_some]
    refine Ev.bind (ref_Open_ev s (by omega)) ?_
    rw [sum_f s (by omega)]
    simp only [Option.bind_some]
    refine Ev.bind (ref_Sum_ev s (by omega)) ?_
    simp only [if_true]
    rw [tag_f s (by omega)]
    simp only [Option.bind_some]
    refine Ev.bind (ref_Tag_ev s (by omega)) ?_
    refine Ev.congr (f := fun _ => some true) (fun k => ?_) (Ev.now _)
    rw [works_f]
    simp
end Go.Proofs.YtejifcboopifaaaDoor.Pure
