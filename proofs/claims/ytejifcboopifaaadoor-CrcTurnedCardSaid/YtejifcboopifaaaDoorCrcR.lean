/- The document's sums are the registers' words, too. -/
import Derived.Test.YtejifcboopifaaaDoorPx10
import Derived.Test.YtejifcboopifaaaDoorPx12
import Derived.Test.YtejifcboopifaaaDoorPx13
import Derived.Test.YtejifcboopifaaaDoorPx14
import Derived.Test.YtejifcboopifaaaDoorPx15
import Derived.Test.YtejifcboopifaaaDoorCrcF
namespace Go.Proofs.YtejifcboopifaaaDoor.CrcB
open Go Go.RowKit Go.Proofs.YtejifcboopifaaaDoor.Px Go.Proofs.YtejifcboopifaaaDoorW.PrintWords Go.Proofs.YtejifcboopifaaaDoor.Str

theorem ref_step_l0 (c : W) (d : Nat) : ∀ (x : W) (i : Int), i = 8 - (d : Int) → d ≤ 8 → Ev (fun k => gongref02_step.l0 k (I c) (I x) i) (I ((c >>> 8) ^^^ An d x)) := by
  induction d with
  | zero =>
    intro x i hi _
    refine Ev.step (f := fun _ => some (I ((c >>> 8) ^^^ x))) (fun k => ?_) (Ev.now _)
    simp only [gongref02_step.l0]
    rw [if_neg (by omega), I_256, xor_II]
  | succ d ih =>
    intro x i hi hd
    refine Ev.step (f := fun k => gongref02_step.l0 k (I c) (I (A x)) (i + 1)) (fun k => ?_) (ih (A x) (i + 1) (by omega) (by omega))
    simp only [gongref02_step.l0]
    rw [if_pos (by omega), wrap64_id (by omega) (by omega), ← A_I]
    split <;> rfl
theorem and255 (c : W) : (c &&& 255#32) = c &&& BitVec.ofNat 32 (2 ^ 8 - 1) := rfl
theorem ref_step_ev (c : W) (b : Int) (u : UInt8) (hb : b = (u.toNat : Int)) : Ev (fun k => gongref02_step.f k (I c) b) (I (step c (byte u))) := by
  subst hb
  have hu := u.toNat_lt
  have e : (u.toNat : Int) % 4294967296 = I (byte u) := by
    unfold I byte
    rw [BitVec.toNat_ofNat]
    omega
  have e2 : Go.bits .and .u32 (Go.bits .xor .u32 (I c) (I (byte u))) 255 = I ((c ^^^ byte u) &&& 255#32) := by
    rw [xor_II, show (255 : Int) = I 255#32 by decide, and_I, B_I, B_I]
  refine Ev.congr (f := fun k => gongref02_step.l0 k (I c) (I ((c ^^^ byte u) &&& 255#32)) 0) (fun k => by unfold gongref02_step.f; rw [e, e2]) ?_
  have h := ref_step_l0 c 8 ((c ^^^ byte u) &&& 255#32) 0 (by omega) (by omega)
  have e3 : (c >>> 8) ^^^ An 8 ((c ^^^ byte u) &&& 255#32) = step c (byte u) := by
    unfold step
    rw [and255, An_split 8 (c ^^^ byte u), BitVec.ushiftRight_xor_distrib]
    have : byte u >>> 8 = 0#32 := by
      apply BitVec.eq_of_toNat_eq
      rw [BitVec.toNat_ushiftRight, Nat.shiftRight_eq_div_pow]
      unfold byte
      simp only [BitVec.toNat_ofNat]
      omega
    rw [this, BitVec.xor_zero]
  rw [e3] at h
  exact h

theorem run_drop (c : W) (l : List UInt8) (i : Nat) (h : i < l.length) : run c (l.drop i) = run (step c (byte (l.getD i 0))) (l.drop (i + 1)) := by
  rw [List.drop_eq_getElem_cons h, run_cons]
  simp [List.getD, h]
theorem ref_Sum_l0 (s : ByteArray) (hs : s.size ≤ 1073741824) (d : Nat) : ∀ (c : W) (i : Nat), s.size = i + d → Ev (fun k => gongref02_Sum.l0 k s (I c) (i : Int)) (I (run c (s.data.toList.drop i) ^^^ all)) := by
  induction d with
  | zero =>
    intro c i hi
    refine Ev.step (f := fun _ => some (I (c ^^^ all))) (fun k => ?_) ?_
    · simp only [gongref02_Sum.l0]
      rw [if_neg (by omega), I_all, xor_II]
      have := I_range (c ^^^ all)
      rw [wrap64_id (by omega) (by omega)]
    · rw [List.drop_of_length_le (by simp; omega), run_nil]
      exact Ev.now _
  | succ d ih =>
    intro c i hi
    have hlt : i < s.size := by omega
    have hc : (i : Int) < (s.size : Int) := by omega
    refine Ev.step (f := fun k => (gongref02_step.f k (I c) (bt s (i : Int))).bind fun t => gongref02_Sum.l0 k s t (wrap64 ((i : Int) + 1))) (fun k => ?_) ?_
    · simp only [gongref02_Sum.l0]
      rw [if_pos hc, if_pos (by omega)]
    · refine Ev.bind (ref_step_ev c _ (s.data.toList.getD i 0) (bt_L hlt)) ?_
      rw [run_drop c _ i (by simpa using hlt), wrap64_id (by omega) (by omega)]
      exact ih _ (i + 1) (by omega)
theorem ref_Sum_ev (s : ByteArray) (hs : s.size ≤ 1073741824) : Ev (fun k => gongref02_Sum.f k s) (I (sumL s.data.toList)) := by
  refine Ev.congr (f := fun k => gongref02_Sum.l0 k s (I all) ((0 : Nat) : Int)) (fun k => by unfold gongref02_Sum.f; rw [I_all]; rfl) ?_
  have := ref_Sum_l0 s hs s.size all 0 (by omega)
  simpa [sumL] using this

/-- The last bytes of a number, the highest first. -/
def padL : Nat → Nat → List UInt8
  | 0, _ => []
  | w + 1, n => padL w (n / 256) ++ [UInt8.ofNat n]
theorem padL_length (w n : Nat) : (padL w n).length = w := by
  induction w generalizing n with
  | zero => rfl
  | succ w ih => simp [padL, ih]
theorem ref_Padded_l0 (w : Int) (d : Nat) : ∀ (n : Nat) (s : ByteArray) (i : Int), w = i + (d : Int) → w ≤ 1000 → 0 ≤ i → n < 9223372036854775808 → s.size ≤ 2000 - d →
    Ev (fun k => gongref01_Padded.l0 k (n : Int) w s i) (ofL (padL d n ++ s.data.toList)) := by
  induction d with
  | zero =>
    intro n s i hi hw h0 hn hs
    refine Ev.step (f := fun _ => some s) (fun k => ?_) ?_
    · simp only [gongref01_Padded.l0]
      rw [if_neg (by omega)]
    · simp only [padL, List.nil_append]
      rw [ofL_of]
      exact Ev.now _
  | succ d ih =>
    intro n s i hi hw h0 hn hs
    have e1 : Int.tmod (n : Int) 256 = (n % 256 : Nat) := by rw [Int.tmod_eq_emod_of_nonneg (by omega)]; omega
    have e2 : Int.tdiv (n : Int) 256 = (n / 256 : Nat) := by rw [Int.tdiv_eq_ediv_of_nonneg (by omega)]; omega
    have e3 : (strOfNums [Int.tmod (n : Int) 256 % 256]) = ofL [UInt8.ofNat n] := by
      apply ext
      rw [nums_L, ofL_L, e1]
      simp only [List.map_cons, List.map_nil, List.cons.injEq, and_true]
      apply UInt8.toNat_inj.1
      rw [UInt8.toNat_ofNat', UInt8.toNat_ofNat']
      omega
    have hsz : (ofL [UInt8.ofNat n]).size + s.size ≤ 9223372036854775807 := by simp; omega
    have hsum : padL (d + 1) n ++ s.data.toList = padL d (n / 256) ++ (ofL [UInt8.ofNat n] ++ s).data.toList := by simp [padL]
    rw [hsum]
    refine Ev.step (f := fun k => gongref01_Padded.l0 k ((n / 256 : Nat) : Int) w (ofL [UInt8.ofNat n] ++ s) (i + 1)) (fun k => ?_) (ih (n / 256) _ (i + 1) (by omega) hw (by omega) (by omega) ?_)
    · simp only [gongref01_Padded.l0]
      rw [if_pos (by omega)]
      simp only [Option.bind_some]
      rw [e3, if_pos hsz, e2, wrap64_id (by omega) (by omega), wrap64_id (by omega) (by omega)]
    · have : (ofL [UInt8.ofNat n] ++ s).size = 1 + s.size := by rw [size_L, app_L]; simp; omega
      omega
theorem ref_Padded_ev (n : Nat) (w : Nat) (hn : n < 9223372036854775808) (hw : w ≤ 1000) : Ev (fun k => gongref01_Padded.f k (n : Int) (w : Int)) (ofL (padL w n)) := by
  have := ref_Padded_l0 (w : Int) w n ⟨#[]⟩ 0 (by omega) (by omega) (by omega) hn (by simp [size_L])
  simp only [List.append_nil] at this
  exact this

theorem ref_Tag_ev (s : ByteArray) (hs : s.size ≤ 1073741824) : Ev (fun k => gongref02_Tag.f k s) (ofL (tagL s.data.toList)) := by
  unfold gongref02_Tag.f
  refine Ev.bind (ref_Sum_ev s hs) ?_
  have hx := (sumL s.data.toList).isLt
  have hp := ref_Padded_ev (sumL s.data.toList).toNat 4 (by omega) (by omega)
  refine Ev.bind (a := ofL (padL 4 (sumL s.data.toList).toNat)) hp ?_
  have hsz : (ofL (padL 4 (sumL s.data.toList).toNat)).size = 4 := by rw [ofL_size, padL_length]
  have hb : ∀ i : Nat, i < 4 → bt (ofL (padL 4 (sumL s.data.toList).toNat)) (i : Int) = (((padL 4 (sumL s.data.toList).toNat).getD i 0).toNat : Int) := fun i hi => bt_L (by omega)
  refine Ev.congr (f := fun _ => some (ofL (tagL s.data.toList))) (fun k => ?_) (Ev.now _)
  rw [hsz, if_pos (by decide), if_pos (by decide), if_pos (by decide), if_pos (by decide)]
  simp only [Option.bind_some]
  rw [if_pos (by rw [nums_size]; simp; omega)]
  congr 1
  apply ext
  have h3 : bt (ofL (padL 4 (sumL s.data.toList).toNat)) 3 = _ := hb 3 (by omega)
  have h2 : bt (ofL (padL 4 (sumL s.data.toList).toNat)) 2 = _ := hb 2 (by omega)
  have h1 : bt (ofL (padL 4 (sumL s.data.toList).toNat)) 1 = _ := hb 1 (by omega)
  have h0 : bt (ofL (padL 4 (sumL s.data.toList).toNat)) 0 = _ := hb 0 (by omega)
  rw [app_L, nums_L, ofL_L, h3, h2, h1, h0]
  unfold tagL
  congr 1
  simp only [List.map_cons, List.map_nil, u8_nat, padL, List.nil_append, List.cons_append, le4, Nat.div_div_eq_div_mul]
  rfl
theorem ref_Open_ev (s : ByteArray) (h : s.size ≤ 1073741824) :
    Ev (fun k => gongref02_Open.f k s) (if 4 ≤ s.size ∧ run all s.data.toList = residue then (s.extract 0 (s.size - 4), true) else (⟨#[]⟩, false)) := by
  unfold gongref02_Open.f
  rw [wrap64_id (by omega) (by omega)]
  by_cases h4 : 4 ≤ s.size
  · have e : ((s.size : Int) - 4).toNat = s.size - 4 := by omega
    have hk := owns_iff s.data.toList (by simpa using h4)
    have ht := ref_Tag_ev (s.extract 0 (s.size - 4)) (by rw [size_L, pre_L, List.length_take]; omega)
    rw [pre_L] at ht
    refine Ev.congr (f := fun k => (gongref02_Tag.f k (s.extract 0 (s.size - 4))).bind fun t => if t.toList = s.toList then some (s.extract 0 (s.size - 4), true) else some (⟨#[]⟩, false)) (fun k => ?_) (Ev.bind ht ?_)
    · rw [if_neg (by omega), if_pos (by omega), if_pos (by omega), e]
    · refine Ev.congr (f := fun _ => some _) (fun k => ?_) (Ev.now _)
      rw [toList_L, toList_L, ofL_L, show s.size = s.data.toList.length from size_L s]
      by_cases hr : run all s.data.toList = residue
      · rw [if_pos (hk.2 hr), if_pos ⟨by simpa using h4, hr⟩]
      · rw [if_neg (fun z => hr (hk.1 z)), if_neg (fun z => hr z.2)]
  · refine Ev.congr (f := fun _ => some _) (fun k => ?_) (Ev.now _)
    rw [if_pos (by omega), if_neg (fun z => h4 z.1)]
end Go.Proofs.YtejifcboopifaaaDoor.CrcB
