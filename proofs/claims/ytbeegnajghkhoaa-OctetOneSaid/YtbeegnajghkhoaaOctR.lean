/- The document's numbers and texts as bytes are the plain words on lists, too. -/
import Derived.Test.YtbeegnajghkhoaaPx4
import Derived.Test.YtbeegnajghkhoaaPx6
import Derived.Test.YtbeegnajghkhoaaPx7
import Derived.Test.YtbeegnajghkhoaaOctF
namespace Go.Proofs.Ytbeegnajghkhoaa.OctF
open Go Go.RowKit Go.Proofs.Ytbeegnajghkhoaa.Px Go.Proofs.YtbeegnajghkhoaaW.PrintWords Go.Proofs.Ytbeegnajghkhoaa.Str

theorem ref_Grouped_l0 (n : Nat) : ∀ (s : ByteArray), n < 9223372036854775808 → s.size + (hi (n / 128)).length ≤ 1000 → Ev (fun k => gongref01_Grouped.l0 k (n : Int) s) (ofL (hi (n / 128) ++ s.data.toList)) := by
  induction n using Nat.strongRecOn with
  | _ n ih =>
    intro s hn hs
    by_cases h : n < 128
    · refine Ev.step (f := fun _ => some s) (fun k => ?_) ?_
      · simp only [gongref01_Grouped.l0]
        rw [if_neg (by omega)]
      · rw [show n / 128 = 0 by omega, hi_zero, List.nil_append, ofL_of]
        exact Ev.now _
    · have h1 : n / 128 ≠ 0 := by omega
      have e1 : wrap64 (Int.tdiv (n : Int) 128) = ((n / 128 : Nat) : Int) := by
        rw [Int.tdiv_eq_ediv_of_nonneg (by omega), wrap64_id (by omega) (by omega)]
        omega
      have e2 : strOfNums [wrap64 (Int.tmod ((n / 128 : Nat) : Int) 128 + 128) % 256] = ofL [UInt8.ofNat (n / 128 % 128 + 128)] := by
        apply ext
        rw [nums_L, ofL_L, Int.tmod_eq_emod_of_nonneg (by omega), wrap64_id (by omega) (by omega)]
        simp only [List.map_cons, List.map_nil, List.cons.injEq, and_true]
        congr 1
        omega
      rw [hi_pos h1] at hs ⊢
      rw [List.length_append] at hs
      simp only [List.length_cons, List.length_nil] at hs
      have hsz : (ofL [UInt8.ofNat (n / 128 % 128 + 128)]).size + s.size ≤ 9223372036854775807 := by simp; omega
      have hsum : hi (n / 128 / 128) ++ [UInt8.ofNat (n / 128 % 128 + 128)] ++ s.data.toList = hi (n / 128 / 128) ++ (ofL [UInt8.ofNat (n / 128 % 128 + 128)] ++ s).data.toList := by simp
      rw [hsum]
      have hsz2 : (ofL [UInt8.ofNat (n / 128 % 128 + 128)] ++ s).size = 1 + s.size := by rw [size_L, app_L]; simp; omega
      refine Ev.step (f := fun k => gongref01_Grouped.l0 k ((n / 128 : Nat) : Int) (ofL [UInt8.ofNat (n / 128 % 128 + 128)] ++ s)) (fun k => ?_) (ih (n / 128) (by omega) _ (by omega) (by omega))
      simp only [gongref01_Grouped.l0]
      rw [if_pos (by omega), e1]
      simp only [Option.bind_some]
      rw [e2, if_pos hsz]
theorem ref_Grouped_ev (n : Nat) (hn : n < 9223372036854775808) : Ev (fun k => gongref01_Grouped.f k (n : Int)) (ofL (grp n)) := by
  have e : strOfNums [Int.tmod (n : Int) 128 % 256] = ofL [UInt8.ofNat (n % 128)] := by
    apply ext
    rw [nums_L, ofL_L, Int.tmod_eq_emod_of_nonneg (by omega)]
    simp only [List.map_cons, List.map_nil, List.cons.injEq, and_true]
    congr 1
    omega
  unfold gongref01_Grouped.f
  rw [e]
  have hl := hi_length 8 (n / 128) (by omega)
  exact ref_Grouped_l0 n (ofL [UInt8.ofNat (n % 128)]) hn (by simp; omega)
theorem ref_Padded_l0 (w : Int) (d : Nat) : ∀ (n : Nat) (s : ByteArray) (i : Int), w = i + (d : Int) → w ≤ 1000 → 0 ≤ i → n < 9223372036854775808 → s.size ≤ 2000 - d →
    Ev (fun k => gongref01_Padded.l0 k (n : Int) w s i) (ofL (be d n ++ s.data.toList)) := by
  induction d with
  | zero =>
    intro n s i hi hw h0 hn hs
    refine Ev.step (f := fun _ => some s) (fun k => ?_) ?_
    · simp only [gongref01_Padded.l0]
      rw [if_neg (by omega)]
    · simp only [be, List.nil_append]
      rw [ofL_of]
      exact Ev.now _
  | succ d ih =>
    intro n s i hi hw h0 hn hs
    have e1 : Int.tmod (n : Int) 256 = (n % 256 : Nat) := by rw [Int.tmod_eq_emod_of_nonneg (by omega)]; omega
    have e2 : Int.tdiv (n : Int) 256 = (n / 256 : Nat) := by rw [Int.tdiv_eq_ediv_of_nonneg (by omega)]; omega
    have e3 : (strOfNums [Int.tmod (n : Int) 256 % 256]) = ofL [UInt8.ofNat n] := by
      apply ext
      rw [nums_L, ofL_L, e1]
      simp only [List.map_cons, List.map_nil, List.cons.injEq, and_true]
      apply UInt8.toNat_inj.1
      rw [UInt8.toNat_ofNat', UInt8.toNat_ofNat']
      omega
    have hsz : (ofL [UInt8.ofNat n]).size + s.size ≤ 9223372036854775807 := by simp; omega
    have hsum : be (d + 1) n ++ s.data.toList = be d (n / 256) ++ (ofL [UInt8.ofNat n] ++ s).data.toList := by simp [be]
    rw [hsum]
    refine Ev.step (f := fun k => gongref01_Padded.l0 k ((n / 256 : Nat) : Int) w (ofL [UInt8.ofNat n] ++ s) (i + 1)) (fun k => ?_) (ih (n / 256) _ (i + 1) (by omega) hw (by omega) (by omega) ?_)
    · simp only [gongref01_Padded.l0]
      rw [if_pos (by omega)]
      simp only [Option.bind_some]
      rw [e3, if_pos hsz, e2, wrap64_id (by omega) (by omega), wrap64_id (by omega) (by omega)]
    · have : (ofL [UInt8.ofNat n] ++ s).size = 1 + s.size := by rw [size_L, app_L]; simp; omega
      omega
theorem ref_Padded_ev (n : Nat) (w : Nat) (hn : n < 9223372036854775808) (hw : w ≤ 1000) : Ev (fun k => gongref01_Padded.f k (n : Int) (w : Int)) (ofL (be w n)) := by
  have := ref_Padded_l0 (w : Int) w n ⟨#[]⟩ 0 (by omega) (by omega) (by omega) hn (by simp [size_L])
  simp only [List.append_nil] at this
  exact this

/-- The number of bytes, the highest first. -/
def val (l : List UInt8) : Nat := l.foldl (fun n b => n * 256 + b.toNat) 0
theorem val_snoc (l : List UInt8) (b : UInt8) : val (l ++ [b]) = val l * 256 + b.toNat := by simp [val, List.foldl_append]
theorem snoc_ind {α : Type} {Q : List α → Prop} (h0 : Q []) (h1 : ∀ l b, Q l → Q (l ++ [b])) (l : List α) : Q l := by
  rw [← List.reverse_reverse l]
  induction l.reverse with
  | nil => exact h0
  | cons b r ih => rw [List.reverse_cons]; exact h1 _ _ ih
theorem val_lt (l : List UInt8) : val l < 256 ^ l.length := by
  refine snoc_ind (Q := fun l => val l < 256 ^ l.length) (by decide) (fun l b ih => ?_) l
  rw [val_snoc, List.length_append, List.length_singleton, Nat.pow_succ]
  have := b.toNat_lt
  omega
theorem val_be (w n : Nat) : val (be w n) = n % 256 ^ w := by
  induction w generalizing n with
  | zero => simp [be, val, Nat.mod_one]
  | succ w ih =>
    have e : (UInt8.ofNat n).toNat = n % 256 := UInt8.toNat_ofNat'
    rw [be, val_snoc, ih, e, Nat.pow_succ, Nat.mul_comm (256 ^ w) 256, Nat.mod_mul]
    omega
theorem val_cons (b : UInt8) (l : List UInt8) : val (b :: l) = b.toNat * 256 ^ l.length + val l := by
  refine snoc_ind (Q := fun l => val (b :: l) = b.toNat * 256 ^ l.length + val l) (by simp [val]) (fun l c ih => ?_) l
  rw [← List.cons_append, val_snoc, ih, val_snoc, List.length_append, List.length_singleton, Nat.pow_succ, Nat.add_mul, Nat.mul_assoc]
  omega
/-- Too great a number: eight bytes, the first of them from 128 on. -/
theorem val_big (l : List UInt8) (h : l.length ≤ 8) : val l < 9223372036854775808 ↔ ¬ (l.length = 8 ∧ 128 ≤ (l.getD 0 0).toNat) := by
  by_cases h8 : l.length = 8
  · match l, h8 with
    | b :: r, h8 =>
      have hr : r.length = 7 := by simpa using h8
      have hv := val_lt r
      have h7 : (256 : Nat) ^ 7 = 72057594037927936 := by decide
      rw [hr, h7] at hv
      rw [val_cons, hr, h7, h8]
      have := b.toNat_lt
      simp only [List.getD_cons_zero, true_and]
      omega
  · have hv := val_lt l
    have : (256 : Nat) ^ l.length ≤ 256 ^ 7 := Nat.pow_le_pow_right (by decide) (by omega)
    have h7 : (256 : Nat) ^ 7 = 72057594037927936 := by decide
    constructor
    · intro _ z; exact h8 z.1
    · intro _; omega
theorem val_take (l : List UInt8) (i : Nat) (h : i < l.length) : val (l.take (i + 1)) = val (l.take i) * 256 + (l.getD i 0).toNat := by
  rw [List.take_succ_eq_append_getElem h, val_snoc]
  simp [List.getD, h]
theorem val_take_le (l : List UInt8) (i : Nat) : val (l.take i) ≤ val l := by
  have key : ∀ d i, i + d = l.length → val (l.take i) ≤ val l := by
    intro d
    induction d with
    | zero => intro i hi; rw [List.take_of_length_le (by omega)]; exact Nat.le_refl _
    | succ d ih =>
      intro i hi
      have := ih (i + 1) (by omega)
      rw [val_take l i (by omega)] at this
      omega
  by_cases h : i ≤ l.length
  · exact key (l.length - i) i (by omega)
  · rw [List.take_of_length_le (by omega)]; exact Nat.le_refl _
theorem ref_Number_l0 (s : ByteArray) (hv : val s.data.toList < 9223372036854775808) (hs : s.size ≤ 1000) (d : Nat) : ∀ i : Nat, i + d = s.size → Ev (fun k => gongref01_Number.l0 k s (val (s.data.toList.take i) : Int) (i : Int)) ((val s.data.toList : Int), true) := by
  induction d with
  | zero =>
    intro i hi
    refine Ev.step (f := fun _ => some ((val s.data.toList : Int), true)) (fun k => ?_) (Ev.now _)
    simp only [gongref01_Number.l0]
    rw [if_neg (by omega), List.take_of_length_le (by simp; omega)]
  | succ d ih =>
    intro i hi
    have hlt : i < s.size := by omega
    have ht := val_take s.data.toList i (by simpa using hlt)
    have hle := val_take_le s.data.toList (i + 1)
    have hb := (s.data.toList.getD i 0).toNat_lt
    refine Ev.step (f := fun k => gongref01_Number.l0 k s (val (s.data.toList.take (i + 1)) : Int) ((i + 1 : Nat) : Int)) (fun k => ?_) (ih (i + 1) (by omega))
    simp only [gongref01_Number.l0]
    rw [if_pos (by omega), if_pos (by omega), bt_L hlt, wrap64_id (x := ((s.data.toList.getD i 0).toNat : Int)) (by omega) (by omega), wrap64_id (x := (val (s.data.toList.take i) : Int) * 256) (by omega) (by omega), wrap64_id (by omega) (by omega), wrap64_id (by omega) (by omega), ht]
    rfl
theorem ref_Number_ev (s : ByteArray) (hs : s.size ≤ 8) : Ev (fun k => gongref01_Number.f k s) (if val s.data.toList < 9223372036854775808 then ((val s.data.toList : Int), true) else (0, false)) := by
  have hbig := val_big s.data.toList (by simpa using hs)
  have hj : Ev (fun k => gongref01_Number.j0 k s (decide ¬ (val s.data.toList < 9223372036854775808))) (if val s.data.toList < 9223372036854775808 then ((val s.data.toList : Int), true) else (0, false)) := by
    by_cases h : val s.data.toList < 9223372036854775808
    · rw [if_pos h, decide_eq_false (fun z => z h)]
      have := ref_Number_l0 s h (by omega) s.size 0 (by omega)
      refine Ev.step (f := fun k => gongref01_Number.l0 k s 0 0) (fun k => ?_) (by simpa [val] using this)
      simp only [gongref01_Number.j0]
      rw [if_neg (by decide)]
    · rw [if_neg h, decide_eq_true h]
      refine Ev.step (f := fun _ => some (0, false)) (fun k => ?_) (Ev.now _)
      simp only [gongref01_Number.j0]
      rw [if_pos trivial]
  refine Ev.congr (fun k => ?_) hj
  unfold gongref01_Number.f
  rw [← size_L] at hbig
  by_cases h8 : s.size = 8
  · rw [if_pos (by omega), if_pos (by omega), show (0 : Int) = ((0 : Nat) : Int) from rfl, bt_L (by omega)]
    congr 1
    apply decide_eq_decide.2
    rw [hbig]
    omega
  · rw [if_neg (by omega)]
    congr 1
    symm
    rw [decide_eq_false_iff_not]
    intro z
    exact z (hbig.2 (fun y => h8 y.1))
theorem be_first (w n : Nat) (h : 1 ≤ w) : ∃ r, be w n = UInt8.ofNat (n / 256 ^ (w - 1)) :: r := by
  have := be_add 1 (w - 1) n
  rw [show 1 + (w - 1) = w by omega] at this
  exact ⟨be (w - 1) n, by rw [this]; rfl⟩
end Go.Proofs.Ytbeegnajghkhoaa.OctF
