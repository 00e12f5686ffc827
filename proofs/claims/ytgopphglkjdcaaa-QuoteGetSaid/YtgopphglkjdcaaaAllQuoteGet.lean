import Derived.Test.YtgopphglkjdcaaaPx26
import Derived.Test.YtgopphglkjdcaaaPx6
import Derived.Test.YtgopphglkjdcaaaPx5
import Derived.Test.YtgopphglkjdcaaaStr
import Derived.Test.YtgopphglkjdcaaaPx7
import Derived.Test.YtgopphglkjdcaaaPx23
import Derived.Test.YtgopphglkjdcaaaPx2
import Derived.Test.YtgopphglkjdcaaaIdx
import Derived.Test.YtgopphglkjdcaaaPx3
import Derived.Test.YtgopphglkjdcaaaPx4
import Derived.Test.YtgopphglkjdcaaaPx14
import Derived.Test.YtgopphglkjdcaaaPx15
import Derived.Test.YtgopphglkjdcaaaPx13
import Derived.Test.YtgopphglkjdcaaaPx12
import Derived.Test.YtgopphglkjdcaaaOct
import Derived.Test.YtgopphglkjdcaaaPx8
import Derived.Test.YtgopphglkjdcaaaPx9
import Derived.Test.YtgopphglkjdcaaaPx10
import Derived.Test.YtgopphglkjdcaaaPx27
import Derived.Test.YtgopphglkjdcaaaPx25
import Derived.DataReads
import Derived.DataElems
import Derived.SizedLaws
import Derived.Lib.LaidTab
import Derived.ChangeShapes
import Derived.ChangeMaps
import Derived.Test.YtgopphglkjdcaaaWWords
import Derived.Test.YtgopphglkjdcaaaRows
import Derived.WalkKit
import Derived.ProofKit
import Derived.OpenShut
import Derived.ShutString
import Derived.ChangeOld
import Derived.Below
set_option linter.unusedVariables false
set_option linter.unusedSimpArgs false
/-! DQuoteGet -/
section
/- The statement QuoteGet over whole numbers and lists alone. -/
namespace Go.Proofs.Ytgopphglkjdcaaa.Px
open Go.RowKit
def gonglaw10_QuoteGet.PureL : Prop := ∀ (l0 : List S35) (a1 : ByteArray) (a2 : ByteArray), (∀ z ∈ l0, (z.f0.size ≤ 140737488351232 ∧ ((∀ q_0 ∈ z.f1, (q_0.f0.size ≤ 140737488351232 ∧ q_0.f1.size ≤ 140737488351232)) ∧ z.f1.length * 32 ≤ 140737488351232))) → l0.length * 40 ≤ 140737488351232 → a1.size ≤ 140737488351232 → a2.size ≤ 140737488351232 → ∃ k, gonglaw10_QuoteGet.f k l0 a1 a2 = some true
end Go.Proofs.Ytgopphglkjdcaaa.Px
end
/-! Pre -/
section
/- strings.HasPrefix and strings.CutPrefix over lists. -/
namespace Go.Proofs.Ytgopphglkjdcaaa.Pre
open Go Go.RowKit Go.Proofs.Ytgopphglkjdcaaa.Px Go.Proofs.YtgopphglkjdcaaaW.PrintWords Go.Proofs.Ytgopphglkjdcaaa.Str
theorem take_short {a b : List UInt8} (h : a.length < b.length) : ¬ a.take b.length = b := by
  intro z
  have := congrArg List.length z
  rw [List.length_take] at this
  omega
theorem lite_f (a b : ByteArray) : stringslite_HasPrefix.f a b = some (decide (a.data.toList.take b.data.toList.length = b.data.toList)) := by
  unfold stringslite_HasPrefix.f
  by_cases h : b.size ≤ a.size
  · rw [if_pos (by omega), if_pos (by omega), if_pos (by omega), toList_L, toList_L, pre_L, Int.toNat_natCast, ← size_L]
    congr 1
    rw [Bool.eq_iff_iff, beq_iff_eq, decide_eq_true_eq]
  · rw [if_neg (by omega), decide_eq_false (take_short (by rw [← size_L, ← size_L]; omega))]
theorem has_f (a b : ByteArray) : strings_HasPrefix.f a b = some (decide (a.data.toList.take b.data.toList.length = b.data.toList)) := by
  unfold strings_HasPrefix.f
  rw [lite_f]
  rfl
def cutR (l p : List UInt8) : ByteArray × Bool := if l.take p.length = p then (ofL (l.drop p.length), true) else (ofL l, false)
theorem cutLite_f (a b : ByteArray) : stringslite_CutPrefix.f a b = some (cutR a.data.toList b.data.toList) := by
  unfold stringslite_CutPrefix.f cutR
  rw [lite_f]
  simp only [Option.bind_some, decide_eq_true_eq]
  by_cases h : a.data.toList.take b.data.toList.length = b.data.toList
  · have hl := congrArg List.length h
    rw [List.length_take, ← size_L, ← size_L] at hl
    rw [if_pos h, if_pos h, if_pos (by omega), if_pos (by omega)]
    congr 2
    apply ext
    rw [post_L, ofL_L, Int.toNat_natCast, size_L]
  · rw [if_neg h, if_neg h, ofL_of]
theorem cut_f (a b : ByteArray) : strings_CutPrefix.f a b = some (cutR a.data.toList b.data.toList) := by
  unfold strings_CutPrefix.f
  rw [cutLite_f]
  rfl
end Go.Proofs.Ytgopphglkjdcaaa.Pre
end
/-! Qt -/
section
/- Quoted data over lists of bytes: names, values, escapes, elements; and the scanner's small steps. -/
namespace Go.Proofs.Ytgopphglkjdcaaa.Qt
open Go Go.RowKit Go.Proofs.Ytgopphglkjdcaaa.Px Go.Proofs.YtgopphglkjdcaaaW.PrintWords Go.Proofs.Ytgopphglkjdcaaa.Str
def stp (b : UInt8) : Bool := decide (b.toNat = 32 ∨ b.toNat = 61 ∨ b.toNat = 93 ∨ b.toNat = 34)
def nmA (l : List UInt8) : List UInt8 := l.takeWhile (fun b => !stp b)
def nmB (l : List UInt8) : List UInt8 := l.dropWhile (fun b => !stp b)
def sp (b : UInt8) : Bool := decide (b.toNat = 34 ∨ b.toNat = 93 ∨ b.toNat = 92)
def one (b : UInt8) : List UInt8 := if sp b = true then [92, b] else [b]
def esc (l : List UInt8) : List UInt8 := l.flatMap one
def cons1 (c : UInt8) (x : List UInt8 × List UInt8) : List UInt8 × List UInt8 := (c :: x.1, x.2)
def val : List UInt8 → Option (List UInt8 × List UInt8)
  | [] => none
  | [b] => if b.toNat = 34 then some ([], [b]) else none
  | b :: c :: r => if b.toNat = 34 then some ([], b :: c :: r) else if b.toNat = 93 then none else if b.toNat = 92 ∧ sp c = true then (val r).map (cons1 c) else (val (c :: r)).map (cons1 b)
theorem nm_app (l : List UInt8) : nmA l ++ nmB l = l := List.takeWhile_append_dropWhile
theorem nmB_len (l : List UInt8) : (nmB l).length ≤ l.length := by
  have := congrArg List.length (nm_app l)
  rw [List.length_append] at this
  omega
theorem nmA_len (l : List UInt8) : (nmA l).length ≤ l.length := by
  have := congrArg List.length (nm_app l)
  rw [List.length_append] at this
  omega
theorem nmB_drop (l : List UInt8) : nmB l = l.drop (nmA l).length := by
  have h := nm_app l
  calc nmB l = (nmA l ++ nmB l).drop (nmA l).length := by rw [List.drop_left]
    _ = _ := by rw [h]
theorem nmA_take (l : List UInt8) : nmA l = l.take (nmA l).length := by
  have h := nm_app l
  calc nmA l = (nmA l ++ nmB l).take (nmA l).length := by rw [List.take_left]
    _ = _ := by rw [h]
theorem val_len : ∀ (l : List UInt8) {v q : List UInt8}, val l = some (v, q) → v.length + q.length ≤ l.length ∧ q.head? = some 34
  | [], v, q, h => by simp [val] at h
  | [b], v, q, h => by
    rw [val] at h
    split at h
    · rename_i hb
      injection h with h
      injection h with h1 h2
      subst h1
      subst h2
      refine ⟨by simp, ?_⟩
      have : b = 34 := UInt8.toNat_inj.mp hb
      rw [this]; rfl
    · cases h
  | b :: c :: r, v, q, h => by
    rw [val] at h
    split at h
    · rename_i hb
      injection h with h
      injection h with h1 h2
      subst h1
      subst h2
      refine ⟨by simp, ?_⟩
      have : b = 34 := UInt8.toNat_inj.mp hb
      rw [this]; rfl
    · split at h
      · cases h
      · split at h
        · obtain ⟨⟨v', q'⟩, hv, h⟩ := Option.map_eq_some_iff.mp h
          injection h with h1 h2
          have := val_len r hv
          subst h1
          subst h2
          simp only [List.length_cons]
          exact ⟨by omega, this.2⟩
        · obtain ⟨⟨v', q'⟩, hv, h⟩ := Option.map_eq_some_iff.mp h
          injection h with h1 h2
          have := val_len (c :: r) hv
          subst h1
          subst h2
          simp only [List.length_cons] at this ⊢
          exact ⟨by omega, this.2⟩
theorem sp_byte {b : UInt8} : sp b = true ↔ b.toNat = 34 ∨ b.toNat = 93 ∨ b.toNat = 92 := by simp [sp]
/-- What is escaped is told as it was. -/
theorem val_esc (l : List UInt8) (r : List UInt8) : val (esc l ++ 34 :: r) = some (l, 34 :: r) := by
  induction l with
  | nil =>
    show val (34 :: r) = _
    cases r with
    | nil => rfl
    | cons c r => rw [val]; exact if_pos rfl
  | cons b l ih =>
    have e : esc (b :: l) ++ 34 :: r = one b ++ (esc l ++ 34 :: r) := by unfold esc; rw [List.flatMap_cons, List.append_assoc]
    rw [e]
    unfold one
    by_cases hb : sp b = true
    · rw [if_pos hb]
      show val (92 :: b :: (esc l ++ 34 :: r)) = _
      rw [val, if_neg (by decide), if_neg (by decide), if_pos ⟨rfl, hb⟩, ih]
      rfl
    · rw [if_neg hb]
      have h3 : ¬ (b.toNat = 34 ∨ b.toNat = 93 ∨ b.toNat = 92) := fun z => hb (sp_byte.mpr z)
      obtain ⟨c, t, ht⟩ : ∃ c t, esc l ++ 34 :: r = c :: t := by
        cases hh : esc l ++ 34 :: r with
        | nil => simp at hh
        | cons c t => exact ⟨c, t, rfl⟩
      rw [ht] at ih ⊢
      show val (b :: c :: t) = _
      rw [val, if_neg (by omega), if_neg (by omega), if_neg (by omega), ih]
      rfl
/-- A byte that ends no name. -/
theorem nm_stop {p : List UInt8} (hp : ∀ b ∈ p, stp b = false) {c : UInt8} (hc : stp c = true) (r : List UInt8) : nmA (p ++ c :: r) = p ∧ nmB (p ++ c :: r) = c :: r := by
  unfold nmA nmB
  induction p with
  | nil =>
    rw [List.nil_append, List.takeWhile_cons, List.dropWhile_cons]
    simp [hc]
  | cons b p ih =>
    have hb := hp b List.mem_cons_self
    have ih := ih (fun x hx => hp x (List.mem_cons_of_mem b hx))
    rw [List.cons_append, List.takeWhile_cons, List.dropWhile_cons]
    simp [hb, ih]
-- ---- the program's small steps
theorem take_f (s : ByteArray) (b : Bool) (p : ByteArray) : quote_scanner_take.f s b p = some ((if s.data.toList.take p.data.toList.length = p.data.toList then ofL (s.data.toList.drop p.data.toList.length) else s), b || !(decide (s.data.toList.take p.data.toList.length = p.data.toList))) := by
  unfold quote_scanner_take.f
  rw [Pre.cut_f]
  unfold Pre.cutR
  by_cases h : s.data.toList.take p.data.toList.length = p.data.toList
  · rw [if_pos h, if_pos h, decide_eq_true h]; rfl
  · rw [if_neg h, if_neg h, decide_eq_false h, ofL_of]; rfl
theorem take_yes {s p : ByteArray} {r : List UInt8} (b : Bool) (h : s.data.toList = p.data.toList ++ r) : quote_scanner_take.f s b p = some (ofL r, b) := by
  rw [take_f, h, List.take_left, if_pos rfl, List.drop_left]
  simp
theorem take_no {s p : ByteArray} (b : Bool) (h : ¬ s.data.toList.take p.data.toList.length = p.data.toList) : quote_scanner_take.f s b p = some (s, true) := by
  rw [take_f, if_neg h, decide_eq_false h]
  simp
theorem take_bad (s p : ByteArray) : ∃ r : ByteArray, r.size ≤ s.size ∧ quote_scanner_take.f s true p = some (r, true) := by
  rw [take_f]
  split
  · exact ⟨_, by rw [ofL_size, List.length_drop, size_L]; omega, rfl⟩
  · exact ⟨_, Nat.le_refl _, rfl⟩
theorem at_f (s p : ByteArray) : quote_scanner_at.f s false p = some (decide (s.data.toList.take p.data.toList.length = p.data.toList), s, false) := by
  unfold quote_scanner_at.f
  rw [if_neg (by simp), Pre.has_f]
  rfl
theorem at_bad (s p : ByteArray) : quote_scanner_at.f s true p = some (false, s, true) := by
  unfold quote_scanner_at.f
  rw [if_pos rfl]
theorem stops_has (b : UInt8) : Idx.stops.data.toList.contains b = stp b := by
  unfold stp
  rw [Bool.eq_iff_iff, decide_eq_true_eq]
  show [32, 61, 93, 34].contains b = true ↔ _
  simp only [List.contains_cons, List.contains_nil, Bool.or_false, Bool.or_eq_true, beq_iff_eq, ← UInt8.toNat_inj]
  rfl
theorem index_f (l : List UInt8) : Lib.indexAny l Idx.stops.data.toList = if nmB l = [] then -1 else ((nmA l).length : Int) := by
  induction l with
  | nil => rfl
  | cons b l ih =>
    rw [Lib.indexAny, stops_has, ih]
    unfold nmA nmB
    rw [List.takeWhile_cons, List.dropWhile_cons]
    by_cases hb : stp b = true
    · simp [hb]
    · have hb : stp b = false := by simpa using hb
      simp only [hb, Bool.false_eq_true, if_false, Bool.not_false, if_true]
      by_cases hn : l.dropWhile (fun b => !stp b) = []
      · rw [if_pos hn, if_pos hn]
        rfl
      · rw [if_neg hn, if_neg hn, if_neg (by rw [beq_iff_eq]; omega), List.length_cons]
        push_cast
        rfl
theorem name_f (s : ByteArray) (b : Bool) (hs : s.size ≤ 1073741824) : quote_scanner_name.f s b = some (ofL (nmA s.data.toList), ofL (nmB s.data.toList), b) := by
  unfold quote_scanner_name.f strings_IndexAny.f
  rw [if_pos ⟨rfl, hs⟩, index_f]
  have hl := nm_app s.data.toList
  by_cases hn : nmB s.data.toList = []
  · rw [if_pos hn]
    have e : nmA s.data.toList = s.data.toList := by rw [hn, List.append_nil] at hl; exact hl
    simp only [Option.bind_some]
    rw [if_pos (by omega), hn, e]
    congr 2
    · exact ext (by rw [pre_L, ofL_L, size_L, List.take_length])
    · congr 1
      exact ext (by rw [post_L, ofL_L, size_L, List.drop_length])
  · rw [if_neg hn]
    simp only [Option.bind_some]
    have := nmA_len s.data.toList
    rw [if_neg (by omega), if_pos (by rw [size_L]; omega), Int.toNat_natCast]
    congr 2
    · exact ext (by rw [pre_L, ofL_L, ← nmA_take])
    · congr 1
      exact ext (by rw [post_L, ofL_L, ← nmB_drop])
theorem val_step (b : UInt8) (t : List UInt8) : val (b :: t) = if b.toNat = 34 then some ([], b :: t) else if b.toNat = 93 then none else match t with
    | c :: r => if b.toNat = 92 ∧ sp c = true then (val r).map (cons1 c) else (val t).map (cons1 b)
    | [] => none := by
  cases t with
  | nil => by_cases h : b.toNat = 34 <;> simp [val, h]
  | cons c r => rw [val]
theorem getD_drop (l : List UInt8) (i : Nat) (h : i < l.length) : l.drop i = l.getD i 0 :: l.drop (i + 1) := by
  rw [List.drop_eq_getElem_cons h, List.getD_eq_getElem?_getD, List.getElem?_eq_getElem h, Option.getD_some]
theorem sp_f (b : UInt8) : quote_scanner_value.sp (b.toNat : Int) = sp b := by
  unfold quote_scanner_value.sp sp
  rw [Bool.eq_iff_iff, decide_eq_true_eq, decide_eq_true_eq]
  omega
def told (s : ByteArray) (acc : List UInt8) (x : Option (List UInt8 × List UInt8)) : Option (List UInt8 × Nat) := x.map fun y => (acc ++ y.1, s.size - y.2.length)
theorem told_cons (s : ByteArray) (acc : List UInt8) (c : UInt8) (x : Option (List UInt8 × List UInt8)) : told s (acc ++ [c]) x = told s acc (x.map (cons1 c)) := by
  cases x with
  | none => rfl
  | some y => simp [told, cons1]
theorem value_go (s : ByteArray) (k : Nat) : ∀ (i : Nat) (acc : List UInt8), i ≤ s.size → s.size - i < k → quote_scanner_value.go s k i acc = some (told s acc (val (s.data.toList.drop i))) := by
  induction k with
  | zero => intro i acc h1 h2; omega
  | succ k ih =>
    intro i acc h1 h2
    rw [quote_scanner_value.go]
    by_cases hlt : i < s.size
    case neg =>
      rw [if_neg hlt, List.drop_eq_nil_of_le (by rw [← size_L]; omega)]
      rfl
    rw [if_pos hlt, bt_L hlt, getD_drop _ _ (by rw [← size_L]; exact hlt), val_step, u8_nat]
    generalize s.data.toList.getD i 0 = b
    by_cases h34 : b.toNat = 34
    · rw [if_pos (by omega), if_pos h34]
      simp only [told, Option.map_some, List.append_nil, List.length_cons, List.length_drop, ← size_L]
      congr 3
      omega
    rw [if_neg (by omega), if_neg h34]
    by_cases h93 : b.toNat = 93
    · rw [if_pos (by omega), if_pos h93]
      rfl
    rw [if_neg (by omega), if_neg h93]
    by_cases hlt2 : i + 1 < s.size
    · rw [getD_drop _ _ (by rw [← size_L]; exact hlt2)]
      simp only
      rw [if_pos hlt2, bt_L hlt2, sp_f, u8_nat]
      by_cases h92 : b.toNat = 92
      · rw [if_pos (by omega)]
        by_cases hsp : sp (s.data.toList.getD (i + 1) 0) = true
        · rw [if_pos hsp, if_pos ⟨h92, hsp⟩, ih (i + 2) _ (by omega) (by omega), told_cons]
        · rw [if_neg hsp, if_neg (fun z => hsp z.2), ih (i + 1) _ (by omega) (by omega), told_cons, getD_drop _ (i + 1) (by rw [← size_L]; exact hlt2)]
      · rw [if_neg (by omega), if_neg (fun z => h92 z.1), ih (i + 1) _ (by omega) (by omega), told_cons, getD_drop _ (i + 1) (by rw [← size_L]; exact hlt2)]
    · have hd : s.data.toList.drop (i + 1) = [] := List.drop_eq_nil_of_le (by rw [← size_L]; omega)
      rw [hd]
      simp only
      rw [if_neg hlt2, ih (i + 1) _ (by omega) (by omega), hd]
      split <;> rfl
theorem val_suffix : ∀ (l : List UInt8) {v q : List UInt8}, val l = some (v, q) → q = l.drop (l.length - q.length)
  | [], v, q, h => by simp [val] at h
  | b :: t, v, q, h => by
    rw [val_step] at h
    split at h
    · injection h with h
      injection h with h1 h2
      subst h2
      simp
    · split at h
      · cases h
      · cases t with
        | nil => cases h
        | cons c r =>
          simp only at h
          split at h
          · obtain ⟨⟨v', q'⟩, hv, h⟩ := Option.map_eq_some_iff.mp h
            injection h with h1 h2
            simp only at h2
            subst h2
            have h5 := (val_len r hv).1
            rw [List.length_cons, List.length_cons, show r.length + 1 + 1 - q'.length = (r.length - q'.length) + 1 + 1 by omega, List.drop_succ_cons, List.drop_succ_cons]
            exact val_suffix r hv
          · obtain ⟨⟨v', q'⟩, hv, h⟩ := Option.map_eq_some_iff.mp h
            injection h with h1 h2
            simp only at h2
            subst h2
            have h5 := (val_len (c :: r) hv).1
            rw [List.length_cons, show (c :: r).length + 1 - q'.length = ((c :: r).length - q'.length) + 1 by omega, List.drop_succ_cons]
            exact val_suffix (c :: r) hv
theorem value_f (s : ByteArray) (b : Bool) (hs : s.size ≤ 1073741824) : quote_scanner_value.f s b = some (match val s.data.toList with
    | some (v, q) => (ofL v, ofL q, b)
    | none => (⟨#[]⟩, s, true)) := by
  unfold quote_scanner_value.f
  rw [if_pos hs, value_go s _ 0 [] (by omega) (by omega), List.drop_zero]
  cases h : val s.data.toList with
  | none => rfl
  | some x =>
    obtain ⟨v, q⟩ := x
    have h2 := val_suffix _ h
    have h3 := (val_len _ h).1
    show some ((⟨v.toArray⟩ : ByteArray), s.extract (s.size - q.length) s.size, b) = _
    congr 3
    exact ext (by rw [post_L, ofL_L]; rw [← size_L] at h2; exact h2.symm)
theorem one_eq (b : UInt8) : quote_Escape.one b = one b := by
  unfold quote_Escape.one one
  by_cases h : sp b = true
  · rw [if_pos h, if_pos (by have := sp_byte.mp h; omega)]
  · rw [if_neg h, if_neg (fun z => h (sp_byte.mpr (by omega)))]
theorem escape_f (s : ByteArray) (hs : s.size ≤ 1073741824) : quote_Escape.f s = some (ofL (esc s.data.toList)) := by
  unfold quote_Escape.f
  rw [if_pos hs]
  congr 2
  unfold quote_Escape.all esc
  congr 1
  congr 1
  exact funext one_eq
theorem esc_app (a b : List UInt8) : esc (a ++ b) = esc a ++ esc b := by unfold esc; rw [List.flatMap_append]
theorem one_len (b : UInt8) : (one b).length = 1 + (if sp b = true then 1 else 0) := by unfold one; split <;> rfl
theorem esc_len (l : List UInt8) : l.length ≤ (esc l).length ∧ (esc l).length ≤ 2 * l.length := by
  induction l with
  | nil => exact ⟨Nat.le_refl _, Nat.le_refl _⟩
  | cons b l ih =>
    have e : esc (b :: l) = one b ++ esc l := by unfold esc; rw [List.flatMap_cons]
    rw [e, List.length_append, one_len, List.length_cons]
    split <;> omega
def mayB (b : UInt8) : Bool := decide (33 ≤ b.toNat ∧ b.toNat ≤ 126 ∧ b.toNat ≠ 61 ∧ b.toNat ≠ 93 ∧ b.toNat ≠ 34)
def isName (l : List UInt8) : Bool := l.all mayB && (decide (l ≠ []) && decide (l.length ≤ 32))
theorem may_f (b : UInt8) : quote_mayName.f (b.toNat : Int) = some (mayB b) := by
  unfold quote_mayName.f mayB
  split
  · rw [decide_eq_false (by omega)]
  · split
    · rw [decide_eq_false (by omega)]
    · split
      · rw [decide_eq_false (by omega)]
      · split
        · congr 1
          rw [Bool.eq_iff_iff, decide_eq_true_eq, decide_eq_true_eq]
          omega
        · rw [decide_eq_false (by omega)]
theorem isName_go (l : List UInt8) : quote_IsName.go l = some (l.all mayB) := by
  induction l with
  | nil => rfl
  | cons b l ih =>
    rw [quote_IsName.go, may_f, Option.bind_some, List.all_cons]
    cases mayB b with
    | true => rw [if_pos rfl, ih]; rfl
    | false => rw [if_neg (by simp)]; rfl
theorem isName_f (s : ByteArray) (hs : s.size ≤ 1073741824) : quote_IsName.f s = some (isName s.data.toList) := by
  unfold quote_IsName.f isName
  rw [if_pos hs, isName_go, Option.bind_some, toList_L, size_L]
  congr 3
  rw [Bool.eq_iff_iff, bne_iff_ne, decide_eq_true_eq]
theorem name_free {l : List UInt8} (h : isName l = true) : ∀ b ∈ l, stp b = false := by
  intro b hb
  unfold isName at h
  rw [Bool.and_eq_true, List.all_eq_true] at h
  have := h.1 b hb
  unfold mayB at this
  unfold stp
  rw [decide_eq_true_eq] at this
  exact decide_eq_false (by omega)
end Go.Proofs.Ytgopphglkjdcaaa.Qt
end
/-! Utf -/
section
/- UTF-8 over lists of bytes: a character's bytes, the first character, all characters, what is shown, what is cut. -/
namespace Go.Proofs.Ytgopphglkjdcaaa.Utf
open Go
def isC (c : Nat) : Prop := c ≤ 1114111 ∧ (c < 55296 ∨ 57343 < c)
instance (c : Nat) : Decidable (isC c) := by unfold isC; infer_instance
def encN (c : Nat) : List Nat :=
  if c < 128 then [c] else if c < 2048 then [192 + c / 64, 128 + c % 64]
  else if c < 65536 then [224 + c / 4096, 128 + c / 64 % 64, 128 + c % 64]
  else [240 + c / 262144, 128 + c / 4096 % 64, 128 + c / 64 % 64, 128 + c % 64]
def enc (c : Nat) : List UInt8 := (encN c).map UInt8.ofNat
def decN : List Nat → Option (Nat × Nat)
  | [] => none
  | a :: l =>
    if a < 128 then some (a, 1)
    else if a / 32 = 6 then (match l with
      | b :: _ => if b / 64 = 2 ∧ 128 ≤ a % 32 * 64 + b % 64 then some (a % 32 * 64 + b % 64, 2) else none
      | _ => none)
    else if a / 16 = 14 then (match l with
      | b :: c :: _ => if b / 64 = 2 ∧ c / 64 = 2 ∧ 2048 ≤ (a % 16 * 64 + b % 64) * 64 + c % 64 ∧ isC ((a % 16 * 64 + b % 64) * 64 + c % 64) then some ((a % 16 * 64 + b % 64) * 64 + c % 64, 3) else none
      | _ => none)
    else if a / 8 = 30 then (match l with
      | b :: c :: d :: _ => if b / 64 = 2 ∧ c / 64 = 2 ∧ d / 64 = 2 ∧ 65536 ≤ ((a % 8 * 64 + b % 64) * 64 + c % 64) * 64 + d % 64 ∧ isC (((a % 8 * 64 + b % 64) * 64 + c % 64) * 64 + d % 64) then some (((a % 8 * 64 + b % 64) * 64 + c % 64) * 64 + d % 64, 4) else none
      | _ => none)
    else none
def nat (l : List UInt8) : List Nat := l.map UInt8.toNat
def dec (l : List UInt8) : Option (Nat × Nat) := decN (nat l)
theorem nat_ofNat (l : List Nat) (h : ∀ x ∈ l, x < 256) : nat (l.map UInt8.ofNat) = l := by
  unfold nat
  rw [List.map_map]
  conv => rhs; rw [← List.map_id l]
  apply List.map_congr_left
  intro x hx
  have := h x hx
  simp
  omega
theorem encN_small (c : Nat) (h : isC c) : ∀ x ∈ encN c, x < 256 := by
  unfold isC at h
  unfold encN
  intro x hx
  split at hx
  · simp at hx; omega
  · split at hx
    · simp at hx; omega
    · split at hx
      · simp at hx; omega
      · simp at hx; omega
theorem nat_enc (c : Nat) (h : isC c) : nat (enc c) = encN c := nat_ofNat _ (encN_small c h)
theorem enc_length (c : Nat) : (enc c).length = (encN c).length := by simp [enc]
theorem encN_length (c : Nat) : 1 ≤ (encN c).length ∧ (encN c).length ≤ 4 := by
  unfold encN
  split
  · simp
  · split
    · simp
    · split <;> simp
theorem enc_len (c : Nat) : 1 ≤ (enc c).length ∧ (enc c).length ≤ 4 := by rw [enc_length]; exact encN_length c
theorem decN_enc (c : Nat) (h : isC c) (r : List Nat) : decN (encN c ++ r) = some (c, (encN c).length) := by
  have h' := h
  unfold isC at h'
  unfold encN
  by_cases h1 : c < 128
  · rw [if_pos h1]
    simp only [List.cons_append, decN, if_pos h1, List.length_cons, List.length_nil]
  · rw [if_neg h1]
    by_cases h2 : c < 2048
    · rw [if_pos h2]
      have e : (192 + c / 64) % 32 * 64 + (128 + c % 64) % 64 = c := by omega
      simp only [List.cons_append, List.nil_append, decN, List.length_cons, List.length_nil, e]
      rw [if_neg (by omega), if_pos (by omega), if_pos (by omega)]
    · rw [if_neg h2]
      by_cases h3 : c < 65536
      · rw [if_pos h3]
        have e : ((224 + c / 4096) % 16 * 64 + (128 + c / 64 % 64) % 64) * 64 + (128 + c % 64) % 64 = c := by omega
        simp only [List.cons_append, List.nil_append, decN, List.length_cons, List.length_nil, e]
        rw [if_neg (by omega), if_neg (by omega), if_pos (by omega), if_pos ⟨by omega, by omega, by omega, h⟩]
      · rw [if_neg h3]
        have e : (((240 + c / 262144) % 8 * 64 + (128 + c / 4096 % 64) % 64) * 64 + (128 + c / 64 % 64) % 64) * 64 + (128 + c % 64) % 64 = c := by omega
        simp only [List.cons_append, List.nil_append, decN, List.length_cons, List.length_nil, e]
        rw [if_neg (by omega), if_neg (by omega), if_neg (by omega), if_pos (by omega), if_pos ⟨by omega, by omega, by omega, by omega, h⟩]
theorem decN_inv (l : List Nat) (hl : ∀ x ∈ l, x < 256) {c n : Nat} (h : decN l = some (c, n)) : isC c ∧ n = (encN c).length ∧ l.take n = encN c := by
  cases l with
  | nil => cases h
  | cons a l =>
    have ha := hl a (by simp)
    simp only [decN] at h
    by_cases h1 : a < 128
    · rw [if_pos h1] at h
      cases h
      refine ⟨⟨by omega, by omega⟩, ?_, ?_⟩
      · unfold encN; rw [if_pos h1]; rfl
      · unfold encN; rw [if_pos h1]; rfl
    · rw [if_neg h1] at h
      by_cases h2 : a / 32 = 6
      · rw [if_pos h2] at h
        cases l with
        | nil => cases h
        | cons b l =>
          have hb := hl b (by simp)
          simp only at h
          split at h
          · rename_i hc
            cases h
            have e : encN (a % 32 * 64 + b % 64) = [a, b] := by
              unfold encN
              rw [if_neg (by omega), if_pos (by omega)]
              congr 1
              · omega
              · congr 1; omega
            rw [e]
            exact ⟨⟨by omega, by omega⟩, rfl, rfl⟩
          · cases h
      · rw [if_neg h2] at h
        by_cases h3 : a / 16 = 14
        · rw [if_pos h3] at h
          match l, h with
          | b :: d :: l, h =>
            have hb := hl b (by simp)
            have hd := hl d (by simp)
            simp only at h
            split at h
            · rename_i hc
              cases h
              have e : encN ((a % 16 * 64 + b % 64) * 64 + d % 64) = [a, b, d] := by
                unfold encN
                rw [if_neg (by omega), if_neg (by omega), if_pos (by omega)]
                congr 1
                · omega
                · congr 1
                  · omega
                  · congr 1; omega
              rw [e]
              exact ⟨hc.2.2.2, rfl, rfl⟩
            · cases h
        · rw [if_neg h3] at h
          by_cases h4 : a / 8 = 30
          · rw [if_pos h4] at h
            match l, h with
            | b :: d :: f :: l, h =>
              have hb := hl b (by simp)
              have hd := hl d (by simp)
              have hf := hl f (by simp)
              simp only at h
              split at h
              · rename_i hc
                cases h
                have e : encN (((a % 8 * 64 + b % 64) * 64 + d % 64) * 64 + f % 64) = [a, b, d, f] := by
                  unfold encN
                  rw [if_neg (by omega), if_neg (by omega), if_neg (by omega)]
                  congr 1
                  · omega
                  · congr 1
                    · omega
                    · congr 1
                      · omega
                      · congr 1; omega
                rw [e]
                exact ⟨hc.2.2.2.2, rfl, rfl⟩
              · cases h
          · rw [if_neg h4] at h
            cases h
theorem nat_small (l : List UInt8) : ∀ x ∈ nat l, x < 256 := by
  intro x hx
  unfold nat at hx
  rw [List.mem_map] at hx
  obtain ⟨b, _, rfl⟩ := hx
  exact b.toNat_lt
theorem nat_app (a b : List UInt8) : nat (a ++ b) = nat a ++ nat b := by simp [nat]
theorem nat_inj {a b : List UInt8} (h : nat a = nat b) : a = b := by
  unfold nat at h
  exact (List.map_inj_right (fun _ _ => UInt8.toNat_inj.1)).1 h
theorem dec_enc (c : Nat) (h : isC c) (r : List UInt8) : dec (enc c ++ r) = some (c, (enc c).length) := by
  unfold dec
  rw [nat_app, nat_enc c h, decN_enc c h, enc_length]
theorem dec_inv {l : List UInt8} {c n : Nat} (h : dec l = some (c, n)) : isC c ∧ n = (enc c).length ∧ l = enc c ++ l.drop n := by
  obtain ⟨h1, h2, h3⟩ := decN_inv (nat l) (nat_small l) h
  refine ⟨h1, by rw [enc_length]; exact h2, ?_⟩
  have e : l.take n = enc c := by
    apply nat_inj
    rw [nat_enc c h1, ← h3]
    simp [nat, List.map_take]
  rw [← e, List.take_append_drop]
theorem dec_nil : dec [] = none := rfl
theorem dec_le {l : List UInt8} {c n : Nat} (h : dec l = some (c, n)) : 1 ≤ n ∧ n ≤ 4 ∧ n ≤ l.length := by
  obtain ⟨_, h2, h3⟩ := dec_inv h
  have := enc_len c
  have h4 := congrArg List.length h3
  rw [List.length_append] at h4
  omega
/-- All characters. -/
def chs (l : List UInt8) : Option (List Nat) :=
  match h : dec l with
  | none => if l = [] then some [] else none
  | some (c, n) => (chs (l.drop n)).map (c :: ·)
termination_by l.length
decreasing_by
  have := dec_le h
  rw [List.length_drop]
  omega
theorem chs_nil : chs [] = some [] := by
  rw [chs]
  split
  · rfl
  · rename_i h
    cases h
theorem chs_none {l : List UInt8} (h : dec l = none) (hl : l ≠ []) : chs l = none := by
  rw [chs]
  split
  · rw [if_neg hl]
  · rename_i h'
    rw [h] at h'
    cases h'
theorem chs_some {l : List UInt8} {c n : Nat} (h : dec l = some (c, n)) : chs l = (chs (l.drop n)).map (c :: ·) := by
  rw [chs]
  split
  · rename_i h'
    rw [h] at h'
    cases h'
  · rename_i c' n' h'
    rw [h] at h'
    cases h'
    rfl
def encs (cs : List Nat) : List UInt8 := cs.flatMap enc
theorem encs_cons (c : Nat) (cs : List Nat) : encs (c :: cs) = enc c ++ encs cs := by simp [encs]
theorem encs_app (a b : List Nat) : encs (a ++ b) = encs a ++ encs b := by simp [encs]
theorem chs_cons (c : Nat) (h : isC c) (r : List UInt8) : chs (enc c ++ r) = (chs r).map (c :: ·) := by
  rw [chs_some (dec_enc c h r), List.drop_left]
theorem chs_encs (cs : List Nat) (h : ∀ c ∈ cs, isC c) (r : List UInt8) : chs (encs cs ++ r) = (chs r).map (cs ++ ·) := by
  induction cs with
  | nil => cases hr : chs r <;> simp [encs, hr]
  | cons c cs ih =>
    rw [encs_cons, List.append_assoc, chs_cons c (h c (by simp)), ih (fun x hx => h x (by simp [hx]))]
    cases chs r <;> simp
theorem chs_all (cs : List Nat) (h : ∀ c ∈ cs, isC c) : chs (encs cs) = some cs := by
  have := chs_encs cs h []
  rw [List.append_nil, chs_nil] at this
  simpa using this
theorem chs_inv (n : Nat) : ∀ (l : List UInt8) (cs : List Nat), l.length ≤ n → chs l = some cs → (∀ c ∈ cs, isC c) ∧ l = encs cs := by
  induction n with
  | zero =>
    intro l cs hl h
    obtain rfl : l = [] := List.length_eq_zero_iff.mp (by omega)
    rw [chs_nil] at h
    cases h
    exact ⟨by simp, rfl⟩
  | succ n ih =>
    intro l cs hl h
    cases hd : dec l with
    | none =>
      by_cases h0 : l = []
      · subst h0
        rw [chs_nil] at h
        cases h
        exact ⟨by simp, rfl⟩
      · rw [chs_none hd h0] at h
        cases h
    | some x =>
      obtain ⟨c, k⟩ := x
      have hk := dec_le hd
      obtain ⟨i1, i2, i3⟩ := dec_inv hd
      rw [chs_some hd] at h
      cases hr : chs (l.drop k) with
      | none => rw [hr] at h; cases h
      | some ds =>
        rw [hr] at h
        cases h
        obtain ⟨j1, j2⟩ := ih (l.drop k) ds (by rw [List.length_drop]; omega) hr
        refine ⟨fun x hx => ?_, ?_⟩
        · rw [List.mem_cons] at hx
          rcases hx with rfl | hx
          · exact i1
          · exact j1 x hx
        · rw [encs_cons, ← j2]
          exact i3
theorem chs_iff {l : List UInt8} {cs : List Nat} : chs l = some cs ↔ (∀ c ∈ cs, isC c) ∧ l = encs cs :=
  ⟨chs_inv l.length l cs (Nat.le_refl _), fun ⟨h, e⟩ => by rw [e]; exact chs_all cs h⟩
theorem chs_length {l : List UInt8} {cs : List Nat} (h : chs l = some cs) : cs.length ≤ l.length := by
  obtain ⟨h1, e⟩ := chs_iff.1 h
  rw [e]
  clear h e h1
  induction cs with
  | nil => simp [encs]
  | cons c cs ih => rw [encs_cons, List.length_append]; have := enc_len c; simp; omega
/-- Whether a byte goes on with a character. -/
def cont (b : UInt8) : Prop := b.toNat / 64 = 2
instance (b : UInt8) : Decidable (cont b) := by unfold cont; infer_instance
theorem enc_cont (c : Nat) (h : isC c) (i : Nat) (b : UInt8) (hi : (enc c)[i]? = some b) : cont b ↔ 0 < i := by
  unfold isC at h
  have hn : (encN c)[i]? = some b.toNat := by
    rw [← nat_enc c h]
    simp [nat, hi]
  unfold cont
  generalize b.toNat = x at hn
  unfold encN at hn
  split at hn
  · match i, hn with
    | 0, hn => simp at hn; omega
    | i + 1, hn => simp at hn
  · split at hn
    · match i, hn with
      | 0, hn => simp at hn; omega
      | 1, hn => simp at hn; omega
      | i + 2, hn => simp at hn
    · split at hn
      · match i, hn with
        | 0, hn => simp at hn; omega
        | 1, hn => simp at hn; omega
        | 2, hn => simp at hn; omega
        | i + 3, hn => simp at hn
      · match i, hn with
        | 0, hn => simp at hn; omega
        | 1, hn => simp at hn; omega
        | 2, hn => simp at hn; omega
        | 3, hn => simp at hn; omega
        | i + 4, hn => simp at hn
/-- How many bytes the first characters have that have at most m. -/
def fit : List Nat → Nat → Nat
  | [], _ => 0
  | c :: cs, m => if (enc c).length ≤ m then (enc c).length + fit cs (m - (enc c).length) else 0
theorem fit_all (cs : List Nat) : ∀ m, (encs cs).length ≤ m → fit cs m = (encs cs).length := by
  induction cs with
  | nil => intro m _; rfl
  | cons c cs ih =>
    intro m h
    rw [encs_cons, List.length_append] at h
    rw [encs_cons, List.length_append, fit, if_pos (by omega), ih _ (by omega)]
theorem fit_le (cs : List Nat) : ∀ m, fit cs m ≤ m ∧ fit cs m ≤ (encs cs).length := by
  induction cs with
  | nil => intro m; simp [fit]
  | cons c cs ih =>
    intro m
    rw [encs_cons, List.length_append, fit]
    have := ih (m - (enc c).length)
    split <;> omega
/-- A place behind which no character goes on is one where characters end. -/
theorem fit_at (cs : List Nat) : ∀ m, (∀ c ∈ cs, isC c) → (m = 0 ∨ (encs cs).length ≤ m ∨ ∃ b, (encs cs)[m]? = some b ∧ ¬ cont b) → fit cs m = min m (encs cs).length := by
  induction cs with
  | nil => intro m _ _; simp [fit, encs]
  | cons c cs ih =>
    intro m hc h
    have he := enc_len c
    rw [fit]
    by_cases hm : (enc c).length ≤ m
    · rw [if_pos hm, encs_cons, List.length_append]
      rw [encs_cons, List.length_append, List.getElem?_append_right hm] at h
      rw [ih (m - (enc c).length) (fun x hx => hc x (by simp [hx])) (by
        rcases h with h | h | h
        · omega
        · exact .inr (.inl (by omega))
        · exact .inr (.inr h))]
      omega
    · rw [if_neg hm]
      rcases h with h | h | ⟨b, hb, hn⟩
      · omega
      · rw [encs_cons, List.length_append] at h; omega
      · rw [encs_cons, List.getElem?_append_left (by omega)] at hb
        have := (enc_cont c (hc c (by simp)) m b hb)
        have : m = 0 := by
          rcases Nat.eq_zero_or_pos m with z | z
          · exact z
          · exact absurd (this.2 z) hn
        omega
theorem fit_back (cs : List Nat) : ∀ m, (∀ c ∈ cs, isC c) → 0 < m → (∃ b, (encs cs)[m]? = some b ∧ cont b) → fit cs m = fit cs (m - 1) := by
  induction cs with
  | nil => intro m _ _ h; obtain ⟨b, hb, _⟩ := h; simp [encs] at hb
  | cons c cs ih =>
    intro m hc h0 ⟨b, hb, hn⟩
    have he := enc_len c
    rw [encs_cons] at hb
    by_cases hm : (enc c).length ≤ m
    · rw [List.getElem?_append_right hm] at hb
      by_cases hq : m = (enc c).length
      · rw [hq, Nat.sub_self] at hb
        cases cs with
        | nil => simp [encs] at hb
        | cons d cs =>
          rw [encs_cons, List.getElem?_append_left (by have := enc_len d; omega)] at hb
          have := (enc_cont d (hc d (by simp)) 0 b hb).1 hn
          omega
      · rw [fit, fit, if_pos hm, if_pos (by omega), ih (m - (enc c).length) (fun x hx => hc x (by simp [hx])) (by omega) ⟨b, hb, hn⟩]
        congr 2
        omega
    · rw [fit, fit, if_neg hm, if_neg (by omega)]
/-- What is cut off leaves characters, and the next one would be too much. -/
theorem fit_split (cs : List Nat) : ∀ m, ∃ k, k ≤ cs.length ∧ fit cs m = (encs (cs.take k)).length ∧ (k < cs.length → ∃ c, cs[k]? = some c ∧ m < fit cs m + (enc c).length) := by
  induction cs with
  | nil => intro m; exact ⟨0, by simp, by simp [fit, encs], by simp⟩
  | cons c cs ih =>
    intro m
    by_cases hm : (enc c).length ≤ m
    · obtain ⟨k, h1, h2, h3⟩ := ih (m - (enc c).length)
      refine ⟨k + 1, by simp; omega, ?_, ?_⟩
      · rw [fit, if_pos hm, List.take_succ_cons, encs_cons, List.length_append, h2]
      · intro hk
        simp only [List.length_cons] at hk
        obtain ⟨d, h4, h5⟩ := h3 (by omega)
        refine ⟨d, by simpa using h4, ?_⟩
        rw [fit, if_pos hm]
        omega
    · refine ⟨0, by simp, by rw [fit, if_neg hm]; simp [encs], fun _ => ⟨c, by simp, ?_⟩⟩
      rw [fit, if_neg hm]
      omega
end Go.Proofs.Ytgopphglkjdcaaa.Utf
end
/-! UtfS -/
section
/- What is shown of bytes, over lists: it is UTF-8 without a control, and unlike of unlike bytes. -/
namespace Go.Proofs.Ytgopphglkjdcaaa.Utf
open Go
def digL : List UInt8 := [48, 49, 50, 51, 52, 53, 54, 55, 56, 57, 97, 98, 99, 100, 101, 102]
def dg (i : Nat) : UInt8 := digL.getD i 0
def hexL (b : UInt8) : List UInt8 := [92, 120, dg (b.toNat / 16), dg (b.toNat % 16)]
def unit (l : List UInt8) : List UInt8 × Nat :=
  match dec l with
  | some (c, n) => if c < 32 ∨ c = 127 then (hexL (l.headD 0), 1) else if c = 92 then ([92, 92], n) else (l.take n, n)
  | none => (hexL (l.headD 0), 1)
theorem unit_none {l : List UInt8} (h : dec l = none) : unit l = (hexL (l.headD 0), 1) := by unfold unit; rw [h]
theorem unit_ctl {l : List UInt8} {c n : Nat} (h : dec l = some (c, n)) (hc : c < 32 ∨ c = 127) : unit l = (hexL (l.headD 0), 1) := by unfold unit; rw [h]; exact if_pos hc
theorem unit_back {l : List UInt8} {n : Nat} (h : dec l = some (92, n)) : unit l = ([92, 92], n) := by unfold unit; rw [h]; rfl
theorem unit_plain {l : List UInt8} {c n : Nat} (h : dec l = some (c, n)) (hc : ¬ (c < 32 ∨ c = 127)) (h9 : c ≠ 92) : unit l = (l.take n, n) := by
  unfold unit
  rw [h]
  simp only
  rw [if_neg hc, if_neg h9]
theorem unit_pos (l : List UInt8) : 1 ≤ (unit l).2 ∧ (unit l).2 ≤ 4 := by
  cases h : dec l with
  | none => rw [unit_none h]; show 1 ≤ 1 ∧ 1 ≤ 4; decide
  | some x =>
    obtain ⟨c, n⟩ := x
    have := dec_le h
    by_cases hc : c < 32 ∨ c = 127
    · rw [unit_ctl h hc]; show 1 ≤ 1 ∧ 1 ≤ 4; decide
    · by_cases h9 : c = 92
      · subst h9; rw [unit_back h]; exact ⟨this.1, this.2.1⟩
      · rw [unit_plain h hc h9]; exact ⟨this.1, this.2.1⟩
theorem enc_ascii (c : Nat) (h : c < 128) : enc c = [UInt8.ofNat c] := by
  unfold enc encN
  rw [if_pos h]
  rfl
theorem enc_u8 (b : UInt8) (h : b.toNat < 128) : enc b.toNat = [b] := by
  rw [enc_ascii _ h]
  congr 1
  simp
theorem head_ascii {l : List UInt8} {c n : Nat} (h : dec l = some (c, n)) (hc : c < 128) : ∃ t, l = UInt8.ofNat c :: t ∧ n = 1 := by
  obtain ⟨_, h2, h3⟩ := dec_inv h
  rw [enc_ascii c hc] at h2 h3
  exact ⟨_, h3, h2⟩
theorem unit_cases (l : List UInt8) (h : l ≠ []) :
    (∃ b t, l = b :: t ∧ unit l = (hexL b, 1)) ∨ (∃ t, l = 92 :: t ∧ unit l = ([92, 92], 1)) ∨
    (∃ c t, isC c ∧ 32 ≤ c ∧ c ≠ 127 ∧ c ≠ 92 ∧ l = enc c ++ t ∧ unit l = (enc c, (enc c).length)) := by
  cases hd : dec l with
  | none =>
    cases l with
    | nil => exact absurd rfl h
    | cons b t => exact .inl ⟨b, t, rfl, unit_none hd⟩
  | some x =>
    obtain ⟨c, n⟩ := x
    by_cases hc : c < 32 ∨ c = 127
    · cases l with
      | nil => exact absurd rfl h
      | cons b t => exact .inl ⟨b, t, rfl, unit_ctl hd hc⟩
    · by_cases h9 : c = 92
      · subst h9
        obtain ⟨t, ht, hn⟩ := head_ascii hd (by decide)
        subst hn
        exact .inr (.inl ⟨t, ht, unit_back hd⟩)
      · obtain ⟨h1, h2, h3⟩ := dec_inv hd
        refine .inr (.inr ⟨c, l.drop n, h1, by omega, by omega, h9, h3, ?_⟩)
        rw [unit_plain hd hc h9, ← h2]
        congr 1
        rw [h2]
        conv => lhs; rw [h3]
        rw [List.take_left]
theorem unit_le (l : List UInt8) (h : l ≠ []) : (unit l).2 ≤ l.length := by
  rcases unit_cases l h with ⟨b, t, e, hu⟩ | ⟨t, e, hu⟩ | ⟨c, t, _, _, _, _, e, hu⟩
  · rw [hu, e]; simp
  · rw [hu, e]; simp
  · rw [hu, e]; simp
def shown (l : List UInt8) : List UInt8 := if h : l = [] then [] else (unit l).1 ++ shown (l.drop (unit l).2)
termination_by l.length
decreasing_by
  have := unit_le l h
  have := (unit_pos l).1
  rw [List.length_drop]
  omega
theorem shown_nil : shown [] = [] := by rw [shown]; exact dif_pos rfl
theorem shown_step {l : List UInt8} (h : l ≠ []) : shown l = (unit l).1 ++ shown (l.drop (unit l).2) := by rw [shown]; exact dif_neg h
theorem hexL_length (b : UInt8) : (hexL b).length = 4 := rfl
theorem unit_len (l : List UInt8) (h : l ≠ []) : 1 ≤ (unit l).1.length ∧ (unit l).1.length ≤ 4 := by
  rcases unit_cases l h with ⟨b, t, _, hu⟩ | ⟨t, _, hu⟩ | ⟨c, t, _, _, _, _, _, hu⟩
  · rw [hu]; show 1 ≤ 4 ∧ 4 ≤ 4; decide
  · rw [hu]; show 1 ≤ 2 ∧ 2 ≤ 4; decide
  · rw [hu]; exact enc_len c
theorem shown_length (n : Nat) : ∀ l : List UInt8, l.length ≤ n → (shown l).length ≤ 4 * l.length := by
  induction n with
  | zero =>
    intro l hl
    obtain rfl : l = [] := List.length_eq_zero_iff.mp (by omega)
    rw [shown_nil]
    simp
  | succ n ih =>
    intro l hl
    by_cases h : l = []
    · subst h; rw [shown_nil]; simp
    · have h1 := unit_len l h
      have h2 := (unit_pos l).1
      have h3 := unit_le l h
      have := ih (l.drop (unit l).2) (by rw [List.length_drop]; omega)
      rw [shown_step h, List.length_append]
      rw [List.length_drop] at this
      omega
theorem dg_range : ∀ i : Fin 16, 48 ≤ (dg i.val).toNat ∧ (dg i.val).toNat < 127 := by decide
theorem dg_inj : ∀ i j : Fin 16, dg i.val = dg j.val → i = j := by decide
theorem hexL_encs (b : UInt8) : hexL b = encs [92, 120, (dg (b.toNat / 16)).toNat, (dg (b.toNat % 16)).toNat] := by
  have hb := b.toNat_lt
  have h1 := dg_range ⟨b.toNat / 16, by omega⟩
  have h2 := dg_range ⟨b.toNat % 16, by omega⟩
  simp only at h1 h2
  simp only [encs_cons]
  rw [enc_u8 _ (by omega), enc_u8 _ (by omega)]
  rfl
theorem hexL_inj {a b : UInt8} (h : hexL a = hexL b) : a = b := by
  have ha := a.toNat_lt
  have hb := b.toNat_lt
  unfold hexL at h
  simp only [List.cons.injEq, true_and, and_true] at h
  have h1 := dg_inj ⟨a.toNat / 16, by omega⟩ ⟨b.toNat / 16, by omega⟩ h.1
  have h2 := dg_inj ⟨a.toNat % 16, by omega⟩ ⟨b.toNat % 16, by omega⟩ h.2
  simp only [Fin.mk.injEq] at h1 h2
  apply UInt8.toNat_inj.1
  omega
/-- No control. -/
def calm (c : Nat) : Prop := 32 ≤ c ∧ c ≠ 127
instance (c : Nat) : Decidable (calm c) := by unfold calm; infer_instance
theorem shown_chs (n : Nat) : ∀ l : List UInt8, l.length ≤ n → ∃ cs, chs (shown l) = some cs ∧ ∀ c ∈ cs, calm c := by
  induction n with
  | zero =>
    intro l hl
    obtain rfl : l = [] := List.length_eq_zero_iff.mp (by omega)
    exact ⟨[], by rw [shown_nil, chs_nil], by simp⟩
  | succ n ih =>
    intro l hl
    by_cases h : l = []
    · subst h; exact ⟨[], by rw [shown_nil, chs_nil], by simp⟩
    · have h2 := (unit_pos l).1
      obtain ⟨cs, i1, i2⟩ := ih (l.drop (unit l).2) (by rw [List.length_drop]; have := unit_le l h; omega)
      rw [shown_step h]
      generalize shown (l.drop (unit l).2) = X at i1
      rcases unit_cases l h with ⟨b, t, _, hu⟩ | ⟨t, _, hu⟩ | ⟨c, t, h3, h4, h5, _, _, hu⟩
      · rw [hu]
        have hb := b.toNat_lt
        have d1 := dg_range ⟨b.toNat / 16, by omega⟩
        have d2 := dg_range ⟨b.toNat % 16, by omega⟩
        simp only at d1 d2
        refine ⟨[92, 120, (dg (b.toNat / 16)).toNat, (dg (b.toNat % 16)).toNat] ++ cs, ?_, ?_⟩
        · simp only
          rw [hexL_encs, chs_encs _ (by
            intro c hc
            simp at hc
            unfold isC
            omega), i1]
          rfl
        · intro c hc
          rw [List.mem_append] at hc
          rcases hc with hc | hc
          · simp at hc; unfold calm; omega
          · exact i2 c hc
      · rw [hu]
        refine ⟨[92, 92] ++ cs, ?_, ?_⟩
        · have e : ([92, 92] : List UInt8) = encs [92, 92] := by
            simp only [encs_cons]
            rw [enc_ascii 92 (by decide)]
            rfl
          simp only
          rw [e, chs_encs _ (by intro c hc; simp at hc; unfold isC; omega), i1]
          rfl
        · intro c hc
          rw [List.mem_append] at hc
          rcases hc with hc | hc
          · simp at hc; unfold calm; omega
          · exact i2 c hc
      · rw [hu]
        refine ⟨c :: cs, ?_, ?_⟩
        · simp only
          rw [chs_cons c h3, i1]
          rfl
        · intro d hd
          rw [List.mem_cons] at hd
          rcases hd with rfl | hd
          · exact ⟨h4, h5⟩
          · exact i2 d hd
theorem enc_head {c : Nat} (h : isC c) (h9 : c ≠ 92) (X Y : List UInt8) (e : enc c ++ X = 92 :: Y) : False := by
  have h1 := dec_enc c h X
  have h2 := dec_enc 92 (by decide) Y
  rw [enc_ascii 92 (by decide)] at h2
  rw [e] at h1
  have h3 : dec (92 :: Y) = some (92, 1) := h2
  rw [h3] at h1
  simp only [Option.some.injEq, Prod.mk.injEq] at h1
  exact h9 h1.1.symm
theorem shown_inj (n : Nat) : ∀ a b : List UInt8, a.length ≤ n → shown a = shown b → a = b := by
  induction n with
  | zero =>
    intro a b ha h
    obtain rfl : a = [] := List.length_eq_zero_iff.mp (by omega)
    by_cases hb : b = []
    · exact hb.symm
    · rw [shown_nil, shown_step hb] at h
      have := (unit_len b hb).1
      have h2 := congrArg List.length h
      rw [List.length_append, List.length_nil] at h2
      omega
  | succ n ih =>
    intro a b ha h
    by_cases h0 : a = []
    · subst h0
      by_cases hb : b = []
      · exact hb.symm
      · rw [shown_nil, shown_step hb] at h
        have := (unit_len b hb).1
        have h2 := congrArg List.length h
        rw [List.length_append, List.length_nil] at h2
        omega
    · by_cases hb : b = []
      · subst hb
        rw [shown_nil, shown_step h0] at h
        have := (unit_len a h0).1
        have h2 := congrArg List.length h
        rw [List.length_append, List.length_nil] at h2
        omega
      · rw [shown_step h0, shown_step hb] at h
        rcases unit_cases a h0 with ⟨x, t, ea, hu⟩ | ⟨t, ea, hu⟩ | ⟨c, t, h3, h4, h5, h6, ea, hu⟩
        · rcases unit_cases b hb with ⟨y, s, eb, hv⟩ | ⟨s, eb, hv⟩ | ⟨d, s, g3, g4, g5, g6, eb, hv⟩
          · rw [hu, hv] at h
            simp only at h
            obtain ⟨e1, e2⟩ := List.append_inj h rfl
            rw [ea, eb] at e2
            rw [ea, eb, hexL_inj e1]
            congr 1
            exact ih t s (by rw [ea] at ha; simp at ha; omega) e2
          · rw [hu, hv] at h
            simp [hexL] at h
          · rw [hu, hv] at h
            exact (enc_head g3 g6 _ _ h.symm).elim
        · rcases unit_cases b hb with ⟨y, s, eb, hv⟩ | ⟨s, eb, hv⟩ | ⟨d, s, g3, g4, g5, g6, eb, hv⟩
          · rw [hu, hv] at h
            simp [hexL] at h
          · rw [hu, hv] at h
            simp only at h
            obtain ⟨_, e2⟩ := List.append_inj h rfl
            rw [ea, eb] at e2
            rw [ea, eb]
            congr 1
            exact ih t s (by rw [ea] at ha; simp at ha; omega) e2
          · rw [hu, hv] at h
            exact (enc_head g3 g6 _ _ h.symm).elim
        · rcases unit_cases b hb with ⟨y, s, eb, hv⟩ | ⟨s, eb, hv⟩ | ⟨d, s, g3, g4, g5, g6, eb, hv⟩
          · rw [hu, hv] at h
            exact (enc_head h3 h6 _ _ h).elim
          · rw [hu, hv] at h
            exact (enc_head h3 h6 _ _ h).elim
          · rw [hu, hv] at h
            simp only at h
            have k1 := dec_enc c h3 (shown (a.drop (enc c).length))
            have k2 := dec_enc d g3 (shown (b.drop (enc d).length))
            rw [h, k2] at k1
            simp only [Option.some.injEq, Prod.mk.injEq] at k1
            obtain ⟨rfl, _⟩ := k1
            obtain ⟨_, e2⟩ := List.append_inj h rfl
            rw [ea, eb, List.drop_left, List.drop_left] at e2
            rw [ea, eb]
            congr 1
            exact ih t s (by rw [ea, List.length_append] at ha; have := enc_len d; omega) e2
theorem shown_plain (cs : List Nat) : (∀ c ∈ cs, isC c ∧ calm c ∧ c ≠ 92) → shown (encs cs) = encs cs := by
  induction cs with
  | nil => intro _; exact shown_nil
  | cons c cs ih =>
    intro h
    obtain ⟨h1, h2, h3⟩ := h c (by simp)
    have hl := enc_len c
    have h0 : encs (c :: cs) ≠ [] := by
      rw [encs_cons]
      intro z
      have := congrArg List.length z
      rw [List.length_append, List.length_nil] at this
      omega
    rw [shown_step h0, encs_cons, unit_plain (dec_enc c h1 _) (by unfold calm at h2; omega) h3]
    simp only
    rw [List.take_left, List.drop_left, ih (fun x hx => h x (by simp [hx]))]
theorem mem_back (cs : List Nat) (h : 92 ∈ cs) : (92 : UInt8) ∈ encs cs := by
  unfold encs
  rw [List.mem_flatMap]
  exact ⟨92, h, by rw [enc_ascii 92 (by decide)]; simp⟩
end Go.Proofs.Ytgopphglkjdcaaa.Utf
end
/-! UtfF -/
section
/- The program's and the document's functions of characters are the plain words on lists. -/
namespace Go.Proofs.Ytgopphglkjdcaaa.Utf
open Go Go.RowKit Go.Proofs.Ytgopphglkjdcaaa.Px Go.Proofs.YtgopphglkjdcaaaW.PrintWords Go.Proofs.Ytgopphglkjdcaaa.Str
theorem is_f (c : Nat) : utf_is.f (c : Int) = some (decide (isC c)) := by
  unfold utf_is.f
  rw [if_pos (by omega)]
  by_cases h1 : c ≤ 1114111
  · rw [if_pos (by omega)]
    by_cases h2 : c < 55296
    · rw [if_pos (by omega), decide_eq_true (show isC c from ⟨h1, .inl h2⟩)]
    · rw [if_neg (by omega)]
      congr 1
      rw [Bool.eq_iff_iff, decide_eq_true_eq, decide_eq_true_eq]
      unfold isC
      omega
  · rw [if_neg (by omega), decide_eq_false (fun z : isC c => h1 z.1)]
theorem is_int (x : Int) (h : utf_is.f x = some true) : ∃ c : Nat, x = c ∧ isC c := by
  by_cases h0 : 0 ≤ x
  · obtain ⟨c, rfl⟩ : ∃ c : Nat, x = c := ⟨x.toNat, by omega⟩
    rw [is_f] at h
    exact ⟨c, rfl, by simpa using h⟩
  · unfold utf_is.f at h
    rw [if_neg (by omega)] at h
    cases h
theorem is_no (x : Int) (h : x < 0) : utf_is.f x = some false := by
  unfold utf_is.f
  rw [if_neg (by omega)]
theorem f63 : ∀ b : Fin 256, Go.bits .and .u8 (b.val : Int) 63 = ((b.val % 64 : Nat) : Int) := by decide +kernel
theorem f31 : ∀ b : Fin 256, Go.bits .and .u8 (b.val : Int) 31 = ((b.val % 32 : Nat) : Int) := by decide +kernel
theorem f15 : ∀ b : Fin 256, Go.bits .and .u8 (b.val : Int) 15 = ((b.val % 16 : Nat) : Int) := by decide +kernel
theorem f7 : ∀ b : Fin 256, Go.bits .and .u8 (b.val : Int) 7 = ((b.val % 8 : Nat) : Int) := by decide +kernel
theorem or_i64 (x y : Nat) (hx : x % 64 = 0) (hx1 : x < 4611686018427387904) (hy : y < 64) : Go.bits .or .i64 (x : Int) (y : Int) = ((x + y : Nat) : Int) := by
  rw [bits_join .i64 63 (by decide) (fun n h0 h1 => by rw [IntKind.wrap_i64]; omega) 6 (x : Int) (y : Int) (by omega) (by omega) (by omega) (by omega) (by omega) (by omega)]
  omega
/-- A byte of a text by its place. -/
def at_ (s : ByteArray) (i : Nat) : Nat := (s.data.toList.getD i 0).toNat
theorem at_lt (s : ByteArray) (i : Nat) : at_ s i < 256 := (s.data.toList.getD i 0).toNat_lt
theorem bt_at {s : ByteArray} {i : Nat} (h : i < s.size) : bt s (i : Int) = (at_ s i : Int) := bt_L h
theorem first_step (s : ByteArray) (k c n i : Nat) (hc : c < 2097152) (hi : i < n) (hs : i < s.size) (hi8 : i < 8) :
    utf_First.l0 (k + 1) s (c : Int) (n : Int) (i : Int) = if at_ s i / 64 = 2 then utf_First.l0 k s ((c * 64 + at_ s i % 64 : Nat) : Int) (n : Int) ((i + 1 : Nat) : Int) else some (0, 0, 40) := by
  have hb := at_lt s i
  simp only [utf_First.l0]
  rw [if_pos (by omega), if_pos (by omega), if_pos (by omega), bt_at hs]
  have e := f63 ⟨at_ s i, hb⟩
  simp only at e
  rw [e, wrap64_id (x := (c : Int) * 64) (by omega) (by omega), wrap64_id (x := ((at_ s i % 64 : Nat) : Int)) (by omega) (by omega), show (c : Int) * 64 = ((c * 64 : Nat) : Int) by omega,
    or_i64 (c * 64) (at_ s i % 64) (by omega) (by omega) (by omega), wrap64_id (by omega) (by omega)]
  by_cases h : at_ s i / 64 = 2
  · rw [if_pos (by omega), if_pos h]
    rfl
  · rw [if_neg (by omega), if_neg h]
def lst (n : Nat) : Nat := if n = 2 then 128 else if n = 3 then 2048 else if n = 4 then 65536 else 0
theorem first_end (s : ByteArray) (k c n : Nat) : utf_First.l0 (k + 1) s (c : Int) (n : Int) (n : Int) = some (if isC c ∧ lst n ≤ c then ((c : Int), (n : Int), (0 : Int)) else (0, 0, 40)) := by
  simp only [utf_First.l0]
  rw [if_neg (by omega), is_f]
  simp only [Option.bind_some, decide_eq_true_eq]
  by_cases h : isC c
  · rw [if_pos h]
    have hl : utf_least.f (n : Int) = some ((lst n : Nat) : Int) := by
      unfold utf_least.f lst
      by_cases h2 : n = 2
      · rw [if_pos (by omega), if_pos h2]; rfl
      · rw [if_neg (by omega), if_neg h2]
        by_cases h3 : n = 3
        · rw [if_pos (by omega), if_pos h3]; rfl
        · rw [if_neg (by omega), if_neg h3]
          by_cases h4 : n = 4
          · rw [if_pos (by omega), if_pos h4]; rfl
          · rw [if_neg (by omega), if_neg h4]; rfl
    rw [hl]
    simp only [Option.bind_some]
    by_cases hc : lst n ≤ c
    · rw [if_neg (by omega), if_pos ⟨h, hc⟩]
    · rw [if_pos (by omega), if_neg (fun z => hc z.2)]
  · rw [if_neg h, if_neg (fun z => h z.1)]
def decR (l : List UInt8) : Int × Int × Int := match dec l with | some (c, n) => ((c : Int), (n : Int), 0) | none => (0, 0, 40)
theorem decR_some {l : List UInt8} {c n : Nat} (h : dec l = some (c, n)) : decR l = ((c : Int), (n : Int), 0) := by unfold decR; rw [h]
theorem decR_none {l : List UInt8} (h : dec l = none) : decR l = (0, 0, 40) := by unfold decR; rw [h]
theorem first_k (s : ByteArray) (k : Nat) : utf_First.f (k + 5) s = some (decR s.data.toList) := by
  unfold utf_First.f
  rw [toList_L]
  cases hl : s.data.toList with
  | nil => rw [if_pos rfl]; rfl
  | cons a l =>
    have hsz : s.size = l.length + 1 := by rw [size_L, hl]; rfl
    have ha : at_ s 0 = a.toNat := by unfold at_; rw [hl]; rfl
    have hal := a.toNat_lt
    have hb0 : bt s 0 = (a.toNat : Int) := by
      have := bt_at (s := s) (i := 0) (by omega)
      rw [ha] at this
      exact this
    rw [if_neg (by simp), if_pos (by omega), hb0]
    unfold utf_long.f
    have gen : ∀ (n c : Nat), n ≠ 0 → (if (n : Int) = 0 then utf_First.j0 (k + 5) s (c : Int) (n : Int) true else utf_First.j0 (k + 5) s (c : Int) (n : Int) (decide ((n : Int) > (s.size : Int)))) = if n ≤ s.size then utf_First.l0 (k + 4) s (c : Int) (n : Int) ((1 : Nat) : Int) else some (0, 0, 40) := by
      intro n c h0
      rw [if_neg (by omega)]
      simp only [utf_First.j0, decide_eq_true_eq]
      by_cases h : n ≤ s.size
      · rw [if_neg (by omega), if_pos h]; rfl
      · rw [if_pos (by omega), if_neg h]
    have fl : ∀ m : Nat, m < 256 → wrap64 (m : Int) = (m : Int) := fun m hm => wrap64_id (by omega) (by omega)
    have na : nat (a :: l) = a.toNat :: nat l := rfl
    by_cases h1 : a.toNat < 128
    · rw [if_pos (by omega), fl _ hal]
      simp only [Option.bind_some]
      have g := gen 1 a.toNat (by decide)
      rw [show ((1 : Nat) : Int) = 1 from rfl] at g
      rw [g, if_pos (by omega)]
      have e := first_end s (k + 3) a.toNat 1
      rw [show ((1 : Nat) : Int) = 1 from rfl] at e
      rw [e, if_pos ⟨⟨by omega, by omega⟩, by show 0 ≤ _; omega⟩]
      unfold decR dec
      rw [na]
      simp only [decN, if_pos h1]
      rfl
    · rw [if_neg (by omega)]
      by_cases h2 : a.toNat / 32 = 6
      · have e31 := f31 ⟨a.toNat, hal⟩
        simp only at e31
        rw [if_pos (by omega), e31, fl _ (by omega)]
        simp only [Option.bind_some]
        have g := gen 2 (a.toNat % 32) (by decide)
        rw [show ((2 : Nat) : Int) = 2 from rfl] at g
        rw [g]
        cases l with
        | nil =>
          rw [if_neg (by simp at hsz; omega)]
          unfold decR dec
          rw [na]
          simp only [decN, if_neg h1, if_pos h2, nat, List.map_nil]
        | cons b l =>
          have hb : at_ s 1 = b.toNat := by unfold at_; rw [hl]; rfl
          have hbl := b.toNat_lt
          have st := first_step s (k + 3) (a.toNat % 32) 2 1 (by omega) (by decide) (by simp at hsz; omega) (by decide)
          have en := first_end s (k + 2) (a.toNat % 32 * 64 + b.toNat % 64) 2
          rw [show ((2 : Nat) : Int) = 2 from rfl] at st en
          rw [if_pos (by simp at hsz; omega), st, hb]
          unfold decR dec
          rw [na]
          simp only [decN, if_neg h1, if_pos h2, nat, List.map_cons]
          by_cases c1 : b.toNat / 64 = 2
          · rw [if_pos c1, en]
            by_cases c2 : lst 2 ≤ a.toNat % 32 * 64 + b.toNat % 64
            · rw [if_pos ⟨⟨by omega, by omega⟩, c2⟩, if_pos ⟨c1, c2⟩]
              rfl
            · rw [if_neg (fun z => c2 z.2), if_neg (fun z => c2 z.2)]
          · rw [if_neg c1, if_neg (fun z => c1 z.1)]
      · rw [if_neg (by omega)]
        by_cases h3 : a.toNat / 16 = 14
        · have e15 := f15 ⟨a.toNat, hal⟩
          simp only at e15
          rw [if_pos (by omega), e15, fl _ (by omega)]
          simp only [Option.bind_some]
          have g := gen 3 (a.toNat % 16) (by decide)
          rw [show ((3 : Nat) : Int) = 3 from rfl] at g
          rw [g]
          match l, hl, hsz, na with
          | [], hl, hsz, na =>
            rw [if_neg (by simp at hsz; omega)]
            unfold decR dec
            rw [na]
            simp only [decN, if_neg h1, if_neg h2, if_pos h3, nat, List.map_nil]
          | [b], hl, hsz, na =>
            rw [if_neg (by simp at hsz; omega)]
            unfold decR dec
            rw [na]
            simp only [decN, if_neg h1, if_neg h2, if_pos h3, nat, List.map_cons, List.map_nil]
          | b :: d :: l, hl, hsz, na =>
            have hb : at_ s 1 = b.toNat := by unfold at_; rw [hl]; rfl
            have hd : at_ s 2 = d.toNat := by unfold at_; rw [hl]; rfl
            have hbl := b.toNat_lt
            have hdl := d.toNat_lt
            simp only [List.length_cons] at hsz
            have s1 := first_step s (k + 3) (a.toNat % 16) 3 1 (by omega) (by decide) (by omega) (by decide)
            have s2 := first_step s (k + 2) (a.toNat % 16 * 64 + b.toNat % 64) 3 2 (by omega) (by decide) (by omega) (by decide)
            have en := first_end s (k + 1) ((a.toNat % 16 * 64 + b.toNat % 64) * 64 + d.toNat % 64) 3
            rw [show ((3 : Nat) : Int) = 3 from rfl] at s1 s2 en
            rw [if_pos (by omega), s1, hb]
            unfold decR dec
            rw [na]
            simp only [decN, if_neg h1, if_neg h2, if_pos h3, nat, List.map_cons]
            by_cases c1 : b.toNat / 64 = 2
            · rw [if_pos c1, show (1 + 1 : Nat) = 2 from rfl, s2, hd]
              by_cases c2 : d.toNat / 64 = 2
              · rw [if_pos c2, en]
                by_cases c3 : isC ((a.toNat % 16 * 64 + b.toNat % 64) * 64 + d.toNat % 64) ∧ lst 3 ≤ (a.toNat % 16 * 64 + b.toNat % 64) * 64 + d.toNat % 64
                · rw [if_pos c3, if_pos ⟨c1, c2, c3.2, c3.1⟩]
                  rfl
                · rw [if_neg c3, if_neg (fun z => c3 ⟨z.2.2.2, z.2.2.1⟩)]
              · rw [if_neg c2, if_neg (fun z => c2 z.2.1)]
            · rw [if_neg c1, if_neg (fun z => c1 z.1)]
        · rw [if_neg (by omega)]
          by_cases h4 : a.toNat / 8 = 30
          · have e7 := f7 ⟨a.toNat, hal⟩
            simp only at e7
            rw [if_pos (by omega), e7, fl _ (by omega)]
            simp only [Option.bind_some]
            have g := gen 4 (a.toNat % 8) (by decide)
            rw [show ((4 : Nat) : Int) = 4 from rfl] at g
            rw [g]
            match l, hl, hsz, na with
            | [], hl, hsz, na =>
              rw [if_neg (by simp at hsz; omega)]
              unfold decR dec
              rw [na]
              simp only [decN, if_neg h1, if_neg h2, if_neg h3, if_pos h4, nat, List.map_nil]
            | [b], hl, hsz, na =>
              rw [if_neg (by simp at hsz; omega)]
              unfold decR dec
              rw [na]
              simp only [decN, if_neg h1, if_neg h2, if_neg h3, if_pos h4, nat, List.map_cons, List.map_nil]
            | [b, d], hl, hsz, na =>
              rw [if_neg (by simp at hsz; omega)]
              unfold decR dec
              rw [na]
              simp only [decN, if_neg h1, if_neg h2, if_neg h3, if_pos h4, nat, List.map_cons, List.map_nil]
            | b :: d :: f :: l, hl, hsz, na =>
              have hb : at_ s 1 = b.toNat := by unfold at_; rw [hl]; rfl
              have hd : at_ s 2 = d.toNat := by unfold at_; rw [hl]; rfl
              have hf : at_ s 3 = f.toNat := by unfold at_; rw [hl]; rfl
              have hbl := b.toNat_lt
              have hdl := d.toNat_lt
              have hfl := f.toNat_lt
              simp only [List.length_cons] at hsz
              have s1 := first_step s (k + 3) (a.toNat % 8) 4 1 (by omega) (by decide) (by omega) (by decide)
              have s2 := first_step s (k + 2) (a.toNat % 8 * 64 + b.toNat % 64) 4 2 (by omega) (by decide) (by omega) (by decide)
              have s3 := first_step s (k + 1) ((a.toNat % 8 * 64 + b.toNat % 64) * 64 + d.toNat % 64) 4 3 (by omega) (by decide) (by omega) (by decide)
              have en := first_end s k (((a.toNat % 8 * 64 + b.toNat % 64) * 64 + d.toNat % 64) * 64 + f.toNat % 64) 4
              rw [show ((4 : Nat) : Int) = 4 from rfl] at s1 s2 s3 en
              rw [if_pos (by omega), s1, hb]
              unfold decR dec
              rw [na]
              simp only [decN, if_neg h1, if_neg h2, if_neg h3, if_pos h4, nat, List.map_cons]
              by_cases c1 : b.toNat / 64 = 2
              · rw [if_pos c1, show (1 + 1 : Nat) = 2 from rfl, s2, hd]
                by_cases c2 : d.toNat / 64 = 2
                · rw [if_pos c2, show (2 + 1 : Nat) = 3 from rfl, s3, hf]
                  by_cases c4 : f.toNat / 64 = 2
                  · rw [if_pos c4, en]
                    by_cases c3 : isC (((a.toNat % 8 * 64 + b.toNat % 64) * 64 + d.toNat % 64) * 64 + f.toNat % 64) ∧ lst 4 ≤ ((a.toNat % 8 * 64 + b.toNat % 64) * 64 + d.toNat % 64) * 64 + f.toNat % 64
                    · rw [if_pos c3, if_pos ⟨c1, c2, c4, c3.2, c3.1⟩]
                      rfl
                    · rw [if_neg c3, if_neg (fun z => c3 ⟨z.2.2.2.2, z.2.2.2.1⟩)]
                  · rw [if_neg c4, if_neg (fun z => c4 z.2.2.1)]
                · rw [if_neg c2, if_neg (fun z => c2 z.2.1)]
              · rw [if_neg c1, if_neg (fun z => c1 z.1)]
          · rw [if_neg (by omega)]
            simp only [Option.bind_some, if_true, utf_First.j0]
            unfold decR dec
            rw [na]
            simp only [decN, if_neg h1, if_neg h2, if_neg h3, if_neg h4]
theorem first_ev (s : ByteArray) : Ev (fun k => utf_First.f k s) (decR s.data.toList) :=
  ⟨5, fun k hk => by obtain ⟨j, rfl⟩ : ∃ j, k = j + 5 := ⟨k - 5, by omega⟩; exact first_k s j⟩
def ints (cs : List Nat) : List Int := cs.map fun c : Nat => (c : Int)
def chsR (acc : List Int) (l : List UInt8) : List Int × Int := match chs l with | some cs => (acc ++ ints cs, 0) | none => ([], 40)
theorem chsR_some {acc : List Int} {l : List UInt8} {cs : List Nat} (h : chs l = some cs) : chsR acc l = (acc ++ ints cs, 0) := by unfold chsR; rw [h]
theorem chsR_none {acc : List Int} {l : List UInt8} (h : chs l = none) : chsR acc l = ([], 40) := by unfold chsR; rw [h]
theorem chsR_step {acc : List Int} {l : List UInt8} {c n : Nat} (h : dec l = some (c, n)) : chsR acc l = chsR (acc ++ [(c : Int)]) (l.drop n) := by
  cases hr : chs (l.drop n) with
  | none => rw [chsR_none hr, chsR_none (by rw [chs_some h, hr]; rfl)]
  | some cs => rw [chsR_some hr, chsR_some (cs := c :: cs) (by rw [chs_some h, hr]; rfl)]; simp [ints]
theorem chars_l0 (n : Nat) : ∀ (s : ByteArray) (acc : List Int), s.size ≤ n → acc.length + s.size ≤ 1073741824 → Ev (fun k => utf_Chars.l0 k s acc) (chsR acc s.data.toList) := by
  induction n with
  | zero =>
    intro s acc hs _
    have h0 : s.data.toList = [] := List.length_eq_zero_iff.mp (by rw [← size_L]; omega)
    rw [h0, chsR_some chs_nil]
    refine Ev.step (f := fun _ => some _) (fun k => ?_) (Ev.now _)
    simp only [utf_Chars.l0]
    rw [if_pos (by rw [toList_L, h0])]
    simp [ints]
  | succ n ih =>
    intro s acc hs ha
    by_cases h0 : s.data.toList = []
    · rw [h0, chsR_some chs_nil]
      refine Ev.step (f := fun _ => some _) (fun k => ?_) (Ev.now _)
      simp only [utf_Chars.l0]
      rw [if_pos (by rw [toList_L, h0])]
      simp [ints]
    · cases hd : dec s.data.toList with
      | none =>
        rw [chsR_none (chs_none hd h0)]
        refine Ev.step (f := fun k => (utf_First.f k s).bind fun _ => some (([] : List Int), (40 : Int))) (fun k => ?_) (Ev.bind (first_ev s) (Ev.now _))
        simp only [utf_Chars.l0]
        rw [if_neg (by rw [toList_L]; exact h0)]
        cases hf : utf_First.f k s with
        | none => rfl
        | some x =>
          have h5 := at_rounds (g := fun k => utf_First.f k s) (fun k => utf_First.mono s k) (show k ≤ k + 5 by omega) hf
          rw [first_k, decR_none hd] at h5
          cases h5
          rfl
      | some x =>
        obtain ⟨c, m⟩ := x
        have hm := dec_le hd
        rw [← size_L] at hm
        rw [chsR_step hd]
        have h := ih (s.extract m s.size) (acc ++ [(c : Int)]) (by rw [size_L, post_L, List.length_drop, ← size_L]; omega) (by rw [size_L, post_L, List.length_drop, ← size_L, List.length_append]; simp; omega)
        rw [post_L] at h
        refine Ev.step (f := fun k => (utf_First.f k s).bind fun b => if b.2.2 = 0 then (if acc.length < 17592186044416 then (if 0 ≤ b.2.1 then (if b.2.1 ≤ (s.size : Int) then (utf_Chars.l0 k (s.extract (b.2.1 : Int).toNat s.size) (acc ++ [b.1])) else none) else none) else none) else some (([] : List Int), b.2.2)) (fun k => ?_) ?_
        · simp only [utf_Chars.l0]
          rw [if_neg (by rw [toList_L]; exact h0)]
        · refine Ev.bind (first_ev s) ?_
          rw [decR_some hd]
          refine Ev.congr (fun k => ?_) h
          simp only [if_true]
          rw [if_pos (by omega), if_pos (by omega), if_pos (by omega), Int.toNat_natCast]
theorem chars_ev (s : ByteArray) (hs : s.size ≤ 1073741824) : Ev (fun k => utf_Chars.f k s) (chsR [] s.data.toList) := by
  unfold utf_Chars.f
  exact chars_l0 s.size s [] (Nat.le_refl _) (by simpa using hs)
def ckR (l : List UInt8) : Int := match chs l with | some _ => 0 | none => 40
theorem ckR_eq (l : List UInt8) : ckR l = (chsR [] l).2 := by unfold ckR chsR; cases chs l <;> rfl
theorem ckR_zero {l : List UInt8} : ckR l = 0 ↔ ∃ cs, chs l = some cs := by
  unfold ckR
  cases chs l <;> simp
theorem check_ev (s : ByteArray) (hs : s.size ≤ 1073741824) : Ev (fun k => utf_Check.f k s) (ckR s.data.toList) := by
  unfold utf_Check.f
  refine Ev.bind (chars_ev s hs) ?_
  rw [ckR_eq]
  exact Ev.now _
end Go.Proofs.Ytgopphglkjdcaaa.Utf
end
/-! QtE -/
section
/- Elements: what the scanner tells of them; which data may be; what is parsed. -/
namespace Go.Proofs.Ytgopphglkjdcaaa.Qt
open Go Go.RowKit Go.Proofs.Ytgopphglkjdcaaa.Px Go.Proofs.YtgopphglkjdcaaaW.PrintWords Go.Proofs.Ytgopphglkjdcaaa.Str
abbrev PR := S37
abbrev EL := S35
def pars : Nat → List UInt8 → Option (List PR × List UInt8)
  | 0, _ => none
  | n + 1, l => if l.take 1 = [32] then (if (nmB (l.drop 1)).take 2 = [61, 34] then (val ((nmB (l.drop 1)).drop 2)).bind fun x => (pars n (x.2.drop 1)).map fun y => (⟨ofL (nmA (l.drop 1)), ofL x.1⟩ :: y.1, y.2) else none)
    else if l.take 1 = [93] then some ([], l.drop 1) else none
def elem (n : Nat) (l : List UInt8) : Option (EL × List UInt8) := (pars n (nmB l)).map fun y => (⟨ofL (nmA l), y.1⟩, y.2)
def elems : Nat → List UInt8 → Option (List EL × List UInt8)
  | 0, _ => none
  | n + 1, l => if l.take 1 = [91] then (elem (n + 1) (l.drop 1)).bind fun x => (elems n x.2).map fun y => (x.1 :: y.1, y.2) else some ([], l)
theorem take_one {l : List UInt8} {c : UInt8} (h : l.take 1 = [c]) : l = c :: l.drop 1 := by
  cases l with
  | nil => simp at h
  | cons b t => simp at h; simp [h]
theorem take_two {l : List UInt8} {c d : UInt8} (h : l.take 2 = [c, d]) : l = c :: d :: l.drop 2 := by
  cases l with
  | nil => simp at h
  | cons b t =>
    cases t with
    | nil => simp at h
    | cons e u => simp at h; simp [h]
theorem pars_len (n : Nat) : ∀ (l : List UInt8) {ps : List PR} {r : List UInt8}, pars n l = some (ps, r) → r.length < l.length ∧ ps.length ≤ l.length := by
  induction n with
  | zero => intro l ps r h; simp [pars] at h
  | succ n ih =>
    intro l ps r h
    rw [pars] at h
    split at h
    · rename_i h1
      have e1 := congrArg List.length (take_one h1)
      rw [List.length_cons] at e1
      split at h
      · rename_i h2
        obtain ⟨⟨v, q⟩, hv, h⟩ := Option.bind_eq_some_iff.mp h
        obtain ⟨⟨ps', r'⟩, hp, h⟩ := Option.map_eq_some_iff.mp h
        simp only at hp
        injection h with h3 h4
        simp only at h3 h4
        subst h3
        subst h4
        have h5 := (val_len _ hv).1
        have h6 := ih _ hp
        have h7 := nmB_len (l.drop 1)
        rw [List.length_drop] at h5 h6
        rw [List.length_cons]
        omega
      · cases h
    · split at h
      · rename_i h1
        have e1 := congrArg List.length (take_one h1)
        rw [List.length_cons] at e1
        injection h with h
        injection h with h3 h4
        subst h3
        subst h4
        rw [List.length_nil]
        omega
      · cases h
/-- What the scanner's loop tells of parameters. -/
def fits (m : ByteArray) (acc : List PR) (o : Option (List PR × List UInt8)) (y : ByteArray × List PR × ByteArray × Bool) : Prop := match o with
  | some x => y = (m, acc ++ x.1, ofL x.2, false)
  | none => y.2.2.2 = true
theorem l0_bad (s m : ByteArray) (acc : List PR) : ∃ y, Ev (fun k => quote_scanner_element.l0 k s true m acc) y ∧ y.2.2.2 = true := by
  obtain ⟨r, _, hr⟩ := take_bad s ⟨#[93]⟩
  refine ⟨(m, acc, r, true), Ev.step (f := fun _ => some (m, acc, r, true)) (fun k => ?_) (Ev.now _), rfl⟩
  simp only [quote_scanner_element.l0]
  rw [at_bad]
  simp only [Option.bind_some]
  rw [if_neg (by simp), hr]
  rfl
theorem value_bad (s : ByteArray) (hs : s.size ≤ 1073741824) : ∃ v q : ByteArray, quote_scanner_value.f s true = some (v, q, true) := by
  rw [value_f s true hs]
  cases val s.data.toList with
  | none => exact ⟨_, _, rfl⟩
  | some x => exact ⟨_, _, rfl⟩
theorem l0_ev (n : Nat) : ∀ (s m : ByteArray) (acc : List PR), s.size < n → s.size ≤ 1073741824 → acc.length + s.size ≤ 2147483648 →
    ∃ y, Ev (fun k => quote_scanner_element.l0 k s false m acc) y ∧ fits m acc (pars n s.data.toList) y := by
  induction n with
  | zero => intro s m acc h; omega
  | succ n ih =>
    intro s m acc hn hs ha
    rw [pars]
    by_cases h1 : s.data.toList.take 1 = [32]
    · rw [if_pos h1]
      have e1 := take_one h1
      have z1 := congrArg List.length e1
      rw [List.length_cons, ← size_L] at z1
      generalize s.data.toList.drop 1 = t at e1 z1 ⊢
      have hat : quote_scanner_at.f s false ⟨#[32]⟩ = some (true, s, false) := by rw [at_f]; show some (decide (s.data.toList.take 1 = [32]), s, false) = _; rw [decide_eq_true h1]
      have htk : quote_scanner_take.f s false ⟨#[32]⟩ = some (ofL t, false) := take_yes false (by rw [e1]; rfl)
      have hnm := name_f (ofL t) false (by rw [ofL_size]; omega)
      rw [ofL_L] at hnm
      have hB := nmB_len t
      have hA := nmA_len t
      by_cases h2 : (nmB t).take 2 = [61, 34]
      · rw [if_pos h2]
        have e2 := take_two h2
        have z2 := congrArg List.length e2
        rw [List.length_cons, List.length_cons] at z2
        generalize (nmB t).drop 2 = u at e2 z2 ⊢
        have htk2 : quote_scanner_take.f (ofL (nmB t)) false ⟨#[61, 34]⟩ = some (ofL u, false) := take_yes false (by rw [ofL_L, e2]; rfl)
        have hv := value_f (ofL u) false (by rw [ofL_size]; omega)
        rw [ofL_L] at hv
        cases hval : val u with
        | none =>
          rw [hval] at hv
          simp only at hv
          obtain ⟨r, _, hr⟩ := take_bad (ofL u) ⟨#[34]⟩
          obtain ⟨y, hy, hyb⟩ := l0_bad r m (acc ++ [(⟨ofL (nmA t), ⟨#[]⟩⟩ : PR)])
          refine ⟨y, Ev.step (fun k => ?_) hy, hyb⟩
          simp only [quote_scanner_element.l0]
          rw [hat]
          simp only [Option.bind_some, if_true]
          rw [htk]
          simp only [Option.bind_some]
          rw [hnm]
          simp only [Option.bind_some]
          rw [htk2]
          simp only [Option.bind_some]
          rw [hv]
          simp only [Option.bind_some]
          rw [hr]
          simp only [Option.bind_some]
          rw [if_pos (by omega)]
        | some x =>
          obtain ⟨v, q⟩ := x
          rw [hval] at hv
          simp only at hv
          have hl := val_len _ hval
          obtain ⟨q', rfl⟩ : ∃ q', q = 34 :: q' := by
            cases q with
            | nil => simp at hl
            | cons a q => simp at hl; exact ⟨q, by rw [hl.2]⟩
          rw [List.length_cons] at hl
          have htk3 : quote_scanner_take.f (ofL (34 :: q')) false ⟨#[34]⟩ = some (ofL q', false) := take_yes false (by rw [ofL_L]; rfl)
          obtain ⟨y, hy, hf⟩ := ih (ofL q') m (acc ++ [(⟨ofL (nmA t), ofL v⟩ : PR)]) (by rw [ofL_size]; omega) (by rw [ofL_size]; omega) (by rw [ofL_size, List.length_append, List.length_cons, List.length_nil]; omega)
          refine ⟨y, Ev.step (fun k => ?_) hy, ?_⟩
          · simp only [quote_scanner_element.l0]
            rw [hat]
            simp only [Option.bind_some, if_true]
            rw [htk]
            simp only [Option.bind_some]
            rw [hnm]
            simp only [Option.bind_some]
            rw [htk2]
            simp only [Option.bind_some]
            rw [hv]
            simp only [Option.bind_some]
            rw [htk3]
            simp only [Option.bind_some]
            rw [if_pos (by omega)]
          · rw [ofL_L] at hf
            simp only [Option.bind_some, List.drop_succ_cons, List.drop_zero]
            cases hp : pars n q' with
            | none => rw [hp] at hf; exact hf
            | some x =>
              rw [hp] at hf
              simp only [fits, Option.map_some] at hf ⊢
              rw [hf, List.append_assoc]
              rfl
      · rw [if_neg h2]
        have htk2 : quote_scanner_take.f (ofL (nmB t)) false ⟨#[61, 34]⟩ = some (ofL (nmB t), true) := take_no false (by rw [ofL_L]; exact h2)
        obtain ⟨v, q, hv⟩ := value_bad (ofL (nmB t)) (by rw [ofL_size]; omega)
        obtain ⟨r, _, hr⟩ := take_bad q ⟨#[34]⟩
        obtain ⟨y, hy, hyb⟩ := l0_bad r m (acc ++ [(⟨ofL (nmA t), v⟩ : PR)])
        refine ⟨y, Ev.step (fun k => ?_) hy, hyb⟩
        simp only [quote_scanner_element.l0]
        rw [hat]
        simp only [Option.bind_some, if_true]
        rw [htk]
        simp only [Option.bind_some]
        rw [hnm]
        simp only [Option.bind_some]
        rw [htk2]
        simp only [Option.bind_some]
        rw [hv]
        simp only [Option.bind_some]
        rw [hr]
        simp only [Option.bind_some]
        rw [if_pos (by omega)]
    · rw [if_neg h1]
      have hat : quote_scanner_at.f s false ⟨#[32]⟩ = some (false, s, false) := by rw [at_f]; show some (decide (s.data.toList.take 1 = [32]), s, false) = _; rw [decide_eq_false h1]
      by_cases h2 : s.data.toList.take 1 = [93]
      · rw [if_pos h2]
        have htk : quote_scanner_take.f s false ⟨#[93]⟩ = some (ofL (s.data.toList.drop 1), false) := take_yes false (take_one h2)
        refine ⟨(m, acc, ofL (s.data.toList.drop 1), false), Ev.step (f := fun _ => some _) (fun k => ?_) (Ev.now _), by simp [fits]⟩
        simp only [quote_scanner_element.l0]
        rw [hat]
        simp only [Option.bind_some]
        rw [if_neg (by simp), htk]
        rfl
      · rw [if_neg h2]
        have htk : quote_scanner_take.f s false ⟨#[93]⟩ = some (s, true) := take_no false h2
        refine ⟨(m, acc, s, true), Ev.step (f := fun _ => some _) (fun k => ?_) (Ev.now _), rfl⟩
        simp only [quote_scanner_element.l0]
        rw [hat]
        simp only [Option.bind_some]
        rw [if_neg (by simp), htk]
        rfl
def fitE (o : Option (EL × List UInt8)) (y : ByteArray × List PR × ByteArray × Bool) : Prop := match o with
  | some x => y = (x.1.f0, x.1.f1, ofL x.2, false)
  | none => y.2.2.2 = true
theorem element_ev (n : Nat) (s : ByteArray) (t : List UInt8) (ht : s.data.toList = 91 :: t) (hn : s.size ≤ n) (hs : s.size ≤ 1073741824) : ∃ y, Ev (fun k => quote_scanner_element.f k s false) y ∧ fitE (elem n t) y := by
  have z1 := congrArg List.length ht
  rw [List.length_cons, ← size_L] at z1
  have htk : quote_scanner_take.f s false ⟨#[91]⟩ = some (ofL t, false) := take_yes false (by rw [ht]; rfl)
  have hnm := name_f (ofL t) false (by rw [ofL_size]; omega)
  rw [ofL_L] at hnm
  have hB := nmB_len t
  obtain ⟨y, hy, hf⟩ := l0_ev n (ofL (nmB t)) (ofL (nmA t)) [] (by rw [ofL_size]; omega) (by rw [ofL_size]; omega) (by rw [ofL_size, List.length_nil]; omega)
  refine ⟨y, Ev.congr (fun k => ?_) hy, ?_⟩
  · unfold quote_scanner_element.f
    rw [htk]
    simp only [Option.bind_some]
    rw [hnm]
    rfl
  · rw [ofL_L] at hf
    unfold elem
    cases hp : pars n (nmB t) with
    | none => rw [hp] at hf; exact hf
    | some x => rw [hp] at hf; exact hf
-- ---- which data may be
def okP (p : PR) : Bool := isName p.f0.data.toList && decide (Utf.ckR p.f1.data.toList = 0)
def okE (x : EL) : Bool := isName x.f0.data.toList && (decide (x.f1.length ≤ 4096) && x.f1.all okP)
def ckGo : List (List UInt8) → List EL → Int
  | _, [] => 0
  | seen, x :: l => if okE x = true ∧ x.f0.data.toList ∉ seen then ckGo (x.f0.data.toList :: seen) l else 100
def ckD (l : List EL) : Int := if 4096 < l.length then 100 else ckGo [] l
def slim (l : List EL) : Prop := ∀ x ∈ l, x.f0.size ≤ 1073741824 ∧ ∀ p ∈ x.f1, p.f0.size ≤ 1073741824 ∧ p.f1.size ≤ 1073741824
theorem ps_ev : ∀ l : List PR, (∀ p ∈ l, p.f0.size ≤ 1073741824 ∧ p.f1.size ≤ 1073741824) → Ev (fun k => quote_Check.ps k l) (l.all okP)
  | [], _ => Ev.now _
  | p :: l, h => by
    have hp := h p List.mem_cons_self
    have ih := ps_ev l (fun x hx => h x (List.mem_cons_of_mem p hx))
    rw [List.all_cons]
    unfold okP
    cases hn : isName p.f0.data.toList with
    | false =>
      refine Ev.congr (f := fun _ => some false) (fun k => ?_) (Ev.now _)
      rw [quote_Check.ps, isName_f _ hp.1, hn, Option.bind_some, if_pos rfl]
    | true =>
      refine Ev.congr (f := fun k => (utf_Check.f k p.f1).bind fun e => if e = 0 then quote_Check.ps k l else some false) (fun k => ?_) (Ev.bind (Utf.check_ev p.f1 hp.2) ?_)
      · rw [quote_Check.ps, isName_f _ hp.1, hn, Option.bind_some, if_neg (by simp)]
      · by_cases he : Utf.ckR p.f1.data.toList = 0
        · rw [decide_eq_true he]
          exact Ev.congr (fun k => if_pos he) ih
        · rw [decide_eq_false he]
          exact Ev.congr (f := fun _ => some false) (fun k => if_neg he) (Ev.now _)
theorem ckgo_ev : ∀ (l : List EL) (seen : List (List UInt8)), slim l → Ev (fun k => quote_Check.go k seen l) (ckGo seen l)
  | [], _, _ => Ev.now _
  | x :: l, seen, h => by
    have hx := h x List.mem_cons_self
    have ih := ckgo_ev l (x.f0.data.toList :: seen) (fun y hy => h y (List.mem_cons_of_mem x hy))
    rw [ckGo]
    unfold okE
    cases hn : isName x.f0.data.toList with
    | false =>
      rw [if_neg (by simp)]
      refine Ev.congr (f := fun _ => some 100) (fun k => ?_) (Ev.now _)
      rw [quote_Check.go, isName_f _ hx.1, hn, Option.bind_some, if_pos rfl]
    | true =>
      by_cases hm : x.f0.data.toList ∈ seen
      · rw [if_neg (fun z => z.2 hm)]
        refine Ev.congr (f := fun _ => some 100) (fun k => ?_) (Ev.now _)
        rw [quote_Check.go, isName_f _ hx.1, hn, Option.bind_some, if_neg (by simp), if_pos hm]
      · by_cases hl : 4096 < x.f1.length
        · rw [if_neg (by rw [decide_eq_false (by omega)]; simp)]
          refine Ev.congr (f := fun _ => some 100) (fun k => ?_) (Ev.now _)
          rw [quote_Check.go, isName_f _ hx.1, hn, Option.bind_some, if_neg (by simp), if_neg hm, if_pos hl]
        · refine Ev.congr (f := fun k => (quote_Check.ps k x.f1).bind fun b => if b = false then some 100 else quote_Check.go k (x.f0.data.toList :: seen) l) (fun k => ?_) (Ev.bind (ps_ev x.f1 hx.2) ?_)
          · rw [quote_Check.go, isName_f _ hx.1, hn, Option.bind_some, if_neg (by simp), if_neg hm, if_neg hl]
          · rw [decide_eq_true (by omega)]
            cases hb : x.f1.all okP with
            | false =>
              rw [if_neg (by simp)]
              exact Ev.congr (f := fun _ => some 100) (fun k => if_pos rfl) (Ev.now _)
            | true =>
              rw [if_pos ⟨by simp, hm⟩]
              exact Ev.congr (fun k => if_neg (by simp)) ih
theorem check_ev (l : List EL) (h : slim l) : Ev (fun k => quote_Check.f k l) (ckD l) := by
  unfold quote_Check.f ckD
  by_cases hl : 4096 < l.length
  · rw [if_pos hl]
    exact Ev.congr (f := fun _ => some 100) (fun k => if_pos hl) (Ev.now _)
  · rw [if_neg hl]
    exact Ev.congr (fun k => if_neg hl) (ckgo_ev l [] h)
-- ---- what is parsed is slim
theorem val_size {l v q : List UInt8} (h : val l = some (v, q)) : v.length ≤ l.length := by have := (val_len l h).1; omega
theorem pars_slim (n : Nat) : ∀ (l : List UInt8) {ps : List PR} {r : List UInt8}, l.length ≤ 1073741824 → pars n l = some (ps, r) → ∀ p ∈ ps, p.f0.size ≤ 1073741824 ∧ p.f1.size ≤ 1073741824 := by
  induction n with
  | zero => intro l ps r _ h; simp [pars] at h
  | succ n ih =>
    intro l ps r hl h
    rw [pars] at h
    split at h
    · rename_i h1
      have hA := nmA_len (l.drop 1)
      have hB := nmB_len (l.drop 1)
      rw [List.length_drop] at hA hB
      split at h
      · rename_i h2
        obtain ⟨⟨v, q⟩, hv, h⟩ := Option.bind_eq_some_iff.mp h
        obtain ⟨⟨ps', r'⟩, hp, h⟩ := Option.map_eq_some_iff.mp h
        simp only at hp
        injection h with h3 h4
        simp only at h3 h4
        subst h3
        have h5 := (val_len _ hv).1
        rw [List.length_drop] at h5
        intro p hp'
        rcases List.mem_cons.mp hp' with rfl | hp'
        · simp only [ofL_size]
          omega
        · exact ih _ (by rw [List.length_drop]; omega) hp p hp'
      · cases h
    · split at h
      · injection h with h
        injection h with h3 h4
        subst h3
        intro p hp
        cases hp
      · cases h
theorem elem_len {n : Nat} {l : List UInt8} {x : EL} {r : List UInt8} (h : elem n l = some (x, r)) : r.length < l.length := by
  unfold elem at h
  obtain ⟨⟨ps, r'⟩, hp, h⟩ := Option.map_eq_some_iff.mp h
  injection h with h1 h2
  simp only at h2
  subst h2
  have := (pars_len n _ hp).1
  have := nmB_len l
  omega
theorem elems_slim (n : Nat) : ∀ (l : List UInt8) {xs : List EL} {r : List UInt8}, l.length ≤ 1073741824 → elems n l = some (xs, r) → slim xs := by
  induction n with
  | zero => intro l xs r _ h; simp [elems] at h
  | succ n ih =>
    intro l xs r hl h
    rw [elems] at h
    split at h
    · obtain ⟨⟨x, q⟩, hx, h⟩ := Option.bind_eq_some_iff.mp h
      obtain ⟨⟨xs', r'⟩, hr, h⟩ := Option.map_eq_some_iff.mp h
      simp only at hr
      injection h with h3 h4
      simp only at h3 h4
      subst h3
      have hq := elem_len hx
      rw [List.length_drop] at hq
      intro y hy
      rcases List.mem_cons.mp hy with rfl | hy
      · unfold elem at hx
        obtain ⟨⟨ps, r2⟩, hp, hx⟩ := Option.map_eq_some_iff.mp hx
        injection hx with h1 h2
        simp only at h1
        subst h1
        have hA := nmA_len (l.drop 1)
        have hB := nmB_len (l.drop 1)
        rw [List.length_drop] at hA hB
        exact ⟨by simp only [ofL_size]; omega, pars_slim _ _ (by omega) hp⟩
      · exact ih _ (by omega) hr y hy
    · injection h with h
      injection h with h3 h4
      subst h3
      intro y hy
      cases hy
-- ---- Parse
abbrev RES := List EL × ByteArray × Int
def err : RES := ([], ⟨#[]⟩, 100)
def fin (xs : List EL) (r : List UInt8) : RES := if xs = [] then err else if ckD xs = 0 then (xs, ofL r, 0) else err
def parsR (l : List UInt8) : RES := if l.take 1 = [45] then ([], ofL (l.drop 1), 0) else match elems (l.length + 1) l with
  | some x => fin x.1 x.2
  | none => err
theorem fin_ev (s : ByteArray) (xs : List EL) (hx : slim xs) : Ev (fun k => quote_Parse.fin k s false xs) (fin xs s.data.toList) := by
  unfold quote_Parse.fin fin
  by_cases h0 : xs = []
  · subst h0
    exact Ev.congr (f := fun _ => some err) (fun k => by rw [if_neg (by simp), if_pos (by rfl)]; rfl) (Ev.now _)
  · rw [if_neg h0]
    have hl : ¬ (xs.length : Int) = 0 := fun z => h0 (List.length_eq_zero_iff.mp (by omega))
    refine Ev.congr (fun k => by rw [if_neg (by simp), if_neg hl]) (Ev.bind (check_ev xs hx) ?_)
    by_cases hc : ckD xs = 0
    · rw [if_pos hc, if_pos hc, ofL_of]
      exact Ev.now (xs, s, (0 : Int))
    · rw [if_neg hc, if_neg hc]
      exact Ev.now err
theorem parse_bad (s : ByteArray) (xs : List EL) : Ev (fun k => quote_Parse.l k s true xs) err := by
  refine Ev.step (f := fun _ => some err) (fun k => ?_) (Ev.now _)
  rw [quote_Parse.l, at_bad]
  simp only [Option.bind_some]
  rw [if_neg (by simp), quote_Parse.fin, if_pos rfl]
  rfl
theorem parse_l (n : Nat) : ∀ (s : ByteArray) (acc : List EL), s.size < n → s.size ≤ 1073741824 → acc.length + s.size ≤ 2147483648 → slim acc →
    Ev (fun k => quote_Parse.l k s false acc) (match elems n s.data.toList with | some x => fin (acc ++ x.1) x.2 | none => err) := by
  induction n with
  | zero => intro s acc h; omega
  | succ n ih =>
    intro s acc hn hs ha hsl
    have hsl0 := @elems_slim (n + 1) s.data.toList
    rw [elems] at hsl0 ⊢
    by_cases h1 : s.data.toList.take 1 = [91]
    · rw [if_pos h1] at hsl0 ⊢
      have e1 := take_one h1
      have z1 := congrArg List.length e1
      rw [List.length_cons, ← size_L] at z1
      have hat : quote_scanner_at.f s false ⟨#[91]⟩ = some (true, s, false) := by rw [at_f]; show some (decide (s.data.toList.take 1 = [91]), s, false) = _; rw [decide_eq_true h1]
      generalize s.data.toList.drop 1 = t at e1 z1 hsl0 ⊢
      obtain ⟨⟨y1, y2, y3, y4⟩, hy, hf⟩ := element_ev (n + 1) s t e1 (by omega) hs
      cases he : elem (n + 1) t with
      | none =>
        rw [he] at hf
        have hf : y4 = true := hf
        subst hf
        refine Ev.step (f := fun k => (quote_scanner_element.f k s false).bind fun x => if acc.length < 3518437208883 then quote_Parse.l k x.2.2.1 x.2.2.2 (acc ++ [⟨x.1, x.2.1⟩]) else none) (fun k => ?_) (Ev.bind hy ?_)
        · rw [quote_Parse.l, hat]
          simp only [Option.bind_some, if_true]
        · exact Ev.congr (fun k => if_pos (by omega)) (parse_bad y3 _)
      | some x =>
        obtain ⟨x, q⟩ := x
        rw [he] at hf hsl0
        simp only [fitE, Prod.mk.injEq] at hf
        obtain ⟨rfl, rfl, rfl, rfl⟩ := hf
        have hq := elem_len he
        have hx1 : slim [x] := by
          intro y hy
          rw [List.mem_singleton] at hy
          subst hy
          unfold elem at he
          obtain ⟨⟨ps, r2⟩, hp, he⟩ := Option.map_eq_some_iff.mp he
          injection he with h1 h2
          simp only at h1
          subst h1
          have hA := nmA_len t
          have hB := nmB_len t
          exact ⟨by simp only [ofL_size]; omega, pars_slim _ _ (by omega) hp⟩
        have hsl2 : slim (acc ++ [x]) := by
          intro y hy
          rcases List.mem_append.mp hy with hy | hy
          · exact hsl y hy
          · exact hx1 y hy
        have ih := ih (ofL q) (acc ++ [x]) (by rw [ofL_size]; omega) (by rw [ofL_size]; omega) (by rw [ofL_size, List.length_append, List.length_cons, List.length_nil]; omega) hsl2
        refine Ev.step (f := fun k => (quote_scanner_element.f k s false).bind fun x => if acc.length < 3518437208883 then quote_Parse.l k x.2.2.1 x.2.2.2 (acc ++ [⟨x.1, x.2.1⟩]) else none) (fun k => ?_) (Ev.bind hy ?_)
        · rw [quote_Parse.l, hat]
          simp only [Option.bind_some, if_true]
        · refine Ev.congr (f := fun k => quote_Parse.l k (ofL q) false (acc ++ [x])) (fun k => if_pos (by omega)) ?_
          rw [ofL_L] at ih
          simp only [Option.bind_some]
          cases hr : elems n q with
          | none => rw [hr] at ih; exact ih
          | some z =>
            rw [hr] at ih
            simp only [Option.map_some] at ih ⊢
            rw [List.append_assoc] at ih
            exact ih
    · rw [if_neg h1]
      have hat : quote_scanner_at.f s false ⟨#[91]⟩ = some (false, s, false) := by rw [at_f]; show some (decide (s.data.toList.take 1 = [91]), s, false) = _; rw [decide_eq_false h1]
      refine Ev.step (f := fun k => quote_Parse.fin k s false acc) (fun k => ?_) ?_
      · rw [quote_Parse.l, hat]
        simp only [Option.bind_some]
        rw [if_neg (by simp)]
      · simp only [List.append_nil]
        exact fin_ev s acc hsl
theorem parse_ev (s : ByteArray) (hs : s.size ≤ 1073741824) : Ev (fun k => quote_Parse.f k s) (parsR s.data.toList) := by
  unfold quote_Parse.f parsR
  rw [Pre.cut_f]
  unfold Pre.cutR
  by_cases h : s.data.toList.take 1 = [45]
  · rw [if_pos h]
    refine Ev.congr (f := fun _ => some _) (fun k => ?_) (Ev.now _)
    rw [if_pos (show s.data.toList.take (⟨#[45]⟩ : ByteArray).data.toList.length = (⟨#[45]⟩ : ByteArray).data.toList from h)]
    rfl
  · rw [if_neg h]
    have hp := parse_l (s.data.toList.length + 1) s [] (by rw [← size_L]; omega) hs (by rw [List.length_nil]; omega) (fun x hx => by cases hx)
    simp only [List.nil_append] at hp
    refine Ev.congr (fun k => ?_) hp
    rw [if_neg (show ¬ s.data.toList.take (⟨#[45]⟩ : ByteArray).data.toList.length = (⟨#[45]⟩ : ByteArray).data.toList from h)]
    rfl
end Go.Proofs.Ytgopphglkjdcaaa.Qt
end
/-! QtS -/
section
/- Data that are the same; what is got of data; the chapter's example. -/
namespace Go.Proofs.Ytgopphglkjdcaaa.Qt
open Go Go.RowKit Go.Proofs.Ytgopphglkjdcaaa.Px Go.Proofs.YtgopphglkjdcaaaW.PrintWords Go.Proofs.Ytgopphglkjdcaaa.Str
theorem rdP (a : List PR) (i : Nat) (h : i < a.length) : rd_T37 a (i : Int) = a[i] := by
  unfold rd_T37
  rw [Int.toNat_natCast, List.getD_eq_getElem?_getD, List.getElem?_eq_getElem h, Option.getD_some]
theorem rdE (a : List EL) (i : Nat) (h : i < a.length) : rd_T35 a (i : Int) = a[i] := by
  unfold rd_T35
  rw [Int.toNat_natCast, List.getD_eq_getElem?_getD, List.getElem?_eq_getElem h, Option.getD_some]
def eqP (p q : PR) : Bool := (p.f0.toList == q.f0.toList) && (p.f1.toList == q.f1.toList)
def eqPs : List PR → List PR → Bool
  | [], [] => true
  | p :: l, q :: m => eqP p q && eqPs l m
  | _, _ => false
def eqE (x y : EL) : Bool := (x.f0.toList == y.f0.toList) && eqPs x.f1 y.f1
def eqEs : List EL → List EL → Bool
  | [], [] => true
  | x :: l, y :: m => eqE x y && eqEs l m
  | _, _ => false
theorem eqP_iff {p q : PR} : eqP p q = true ↔ p = q := by
  obtain ⟨p0, p1⟩ := p
  obtain ⟨q0, q1⟩ := q
  unfold eqP
  simp only [Bool.and_eq_true, beq_iff_eq, toList_iff]
  constructor
  · rintro ⟨rfl, rfl⟩; rfl
  · intro h; injection h with h1 h2; exact ⟨h1, h2⟩
theorem eqPs_iff : ∀ {a b : List PR}, eqPs a b = true ↔ a = b
  | [], [] => by simp [eqPs]
  | p :: l, q :: m => by
    rw [eqPs, Bool.and_eq_true, eqP_iff, eqPs_iff, List.cons.injEq]
  | [], _ :: _ => by simp [eqPs]
  | _ :: _, [] => by simp [eqPs]
theorem eqE_iff {p q : EL} : eqE p q = true ↔ p = q := by
  obtain ⟨p0, p1⟩ := p
  obtain ⟨q0, q1⟩ := q
  unfold eqE
  simp only [Bool.and_eq_true, beq_iff_eq, toList_iff, eqPs_iff]
  constructor
  · rintro ⟨rfl, rfl⟩; rfl
  · intro h; injection h with h1 h2; exact ⟨h1, h2⟩
theorem eqEs_iff : ∀ {a b : List EL}, eqEs a b = true ↔ a = b
  | [], [] => by simp [eqEs]
  | p :: l, q :: m => by
    rw [eqEs, Bool.and_eq_true, eqE_iff, eqEs_iff, List.cons.injEq]
  | [], _ :: _ => by simp [eqEs]
  | _ :: _, [] => by simp [eqEs]
theorem eqPs_len {a b : List PR} (h : a.length ≠ b.length) : eqPs a b = false := by
  rw [Bool.eq_false_iff]
  intro z
  exact h (by rw [eqPs_iff.mp z])
theorem eqEs_len {a b : List EL} (h : a.length ≠ b.length) : eqEs a b = false := by
  rw [Bool.eq_false_iff]
  intro z
  exact h (by rw [eqEs_iff.mp z])
theorem params_l0 (a b : List PR) (hl : a.length = b.length) (ha : a.length ≤ 1073741824) (d : Nat) : ∀ i : Nat, i + d = a.length → Ev (fun k => api_Param.l0 k a b (a.length : Int) (i : Int)) (eqPs (a.drop i) (b.drop i)) := by
  induction d with
  | zero =>
    intro i hi
    refine Ev.step (f := fun _ => some true) (fun k => ?_) ?_
    · simp only [api_Param.l0]
      rw [if_neg (by omega)]
    · rw [List.drop_eq_nil_of_le (by omega), List.drop_eq_nil_of_le (by omega)]
      exact Ev.now _
  | succ d ih =>
    intro i hi
    have h1 : i < a.length := by omega
    have h2 : i < b.length := by omega
    rw [List.drop_eq_getElem_cons h1, List.drop_eq_getElem_cons h2, eqPs]
    have key : ∀ k, api_Param.l0 (k + 1) a b (a.length : Int) (i : Int) = if eqP a[i] b[i] = true then api_Param.l0 k a b (a.length : Int) ((i + 1 : Nat) : Int) else some false := by
      intro k
      simp only [api_Param.l0]
      rw [if_pos (by omega), if_pos (by omega), if_pos (by omega), if_pos (by omega), rdP a i h1, rdP b i h2, wrap64_id (by omega) (by omega)]
      unfold eqP
      cases (a[i].f0.toList == b[i].f0.toList) <;> cases (a[i].f1.toList == b[i].f1.toList) <;> simp
    cases he : eqP a[i] b[i] with
    | true => exact Ev.step (fun k => by rw [key k, if_pos he]) (ih (i + 1) (by omega))
    | false => exact Ev.step (f := fun _ => some false) (fun k => by rw [key k, if_neg (by rw [he]; simp)]) (Ev.now _)
theorem params_ev (a b : List PR) (ha : a.length ≤ 1073741824) : Ev (fun k => api_Param.f k a b) (eqPs a b) := by
  unfold api_Param.f
  by_cases hl : a.length = b.length
  · exact Ev.congr (fun k => if_pos (by omega)) (params_l0 a b hl ha a.length 0 (by omega))
  · rw [eqPs_len hl]
    exact Ev.congr (f := fun _ => some false) (fun k => if_neg (by omega)) (Ev.now _)
theorem sameOne_ev (x y : EL) (hx : x.f1.length ≤ 1073741824) : Ev (fun k => quote_Same.one k x y) (eqE x y) := by
  unfold quote_Same.one eqE
  by_cases h : x.f0.toList = y.f0.toList
  · rw [beq_iff_eq.mpr h]
    exact Ev.congr (fun k => if_pos h) (params_ev x.f1 y.f1 hx)
  · rw [beq_eq_false_iff_ne.mpr h]
    exact Ev.congr (f := fun _ => some false) (fun k => if_neg h) (Ev.now _)
theorem sameGo_ev : ∀ a b : List EL, a.length = b.length → (∀ x ∈ a, x.f1.length ≤ 1073741824) → Ev (fun k => quote_Same.go k a b) (eqEs a b)
  | [], [], _, _ => by
    refine Ev.congr (f := fun _ => some true) (fun k => ?_) (Ev.now _)
    rw [quote_Same.go]
    simp
  | x :: l, y :: m, hl, h => by
    have ih := sameGo_ev l m (by simpa using hl) (fun z hz => h z (List.mem_cons_of_mem x hz))
    refine Ev.congr (fun k => by rw [quote_Same.go]) (Ev.bind (sameOne_ev x y (h x List.mem_cons_self)) ?_)
    rw [eqEs]
    cases eqE x y with
    | true => exact Ev.congr (fun k => if_pos rfl) ih
    | false => exact Ev.congr (f := fun _ => some false) (fun k => if_neg (by simp)) (Ev.now _)
  | [], _ :: _, hl, _ => by simp at hl
  | _ :: _, [], hl, _ => by simp at hl
theorem same_ev (a b : List EL) (ha : a.length ≤ 1073741824) (h : ∀ x ∈ a, x.f1.length ≤ 1073741824) : Ev (fun k => quote_Same.f k a b) (eqEs a b) := by
  unfold quote_Same.f
  by_cases hl : a.length = b.length
  · exact Ev.congr (fun k => by rw [if_pos ha, if_pos (by omega)]) (sameGo_ev a b hl h)
  · rw [eqEs_len hl]
    exact Ev.congr (f := fun _ => some false) (fun k => by rw [if_pos ha, if_neg (by omega)]) (Ev.now _)
theorem ascii_ck (cs : List Nat) (h : ∀ c ∈ cs, c < 128) : Utf.ckR (cs.map UInt8.ofNat) = 0 := by
  rw [Utf.ckR_zero]
  refine ⟨cs, ?_⟩
  have e : cs.map UInt8.ofNat = Utf.encs cs := by
    unfold Utf.encs
    induction cs with
    | nil => rfl
    | cons c cs ih =>
      rw [List.flatMap_cons, List.map_cons, Utf.enc_ascii c (h c List.mem_cons_self), ih (fun x hx => h x (List.mem_cons_of_mem c hx))]
      rfl
  rw [e]
  exact Utf.chs_all cs (fun c hc => ⟨by have := h c hc; omega, .inl (by have := h c hc; omega)⟩)
def exL : List UInt8 := [91, 97, 32, 98, 61, 34, 99, 92, 93, 34, 93, 120]
def exE : List EL := [⟨⟨#[97]⟩, [⟨⟨#[98]⟩, ⟨#[99, 93]⟩⟩]⟩]
theorem ex_elems : elems (exL.length + 1) exL = some (exE, [120]) := by rfl
theorem ex_ck : ckD exE = 0 := by
  have h := ascii_ck [99, 93] (by decide)
  have h2 : okE ⟨⟨#[97]⟩, [⟨⟨#[98]⟩, ⟨#[99, 93]⟩⟩]⟩ = true := by
    unfold okE
    have e : okP ⟨⟨#[98]⟩, ⟨#[99, 93]⟩⟩ = true := by
      unfold okP
      rw [show Utf.ckR (⟨#[99, 93]⟩ : ByteArray).data.toList = 0 from h]
      rfl
    rw [List.all_cons, e]
    rfl
  unfold ckD exE
  rw [if_neg (by simp), ckGo, if_pos ⟨h2, by simp⟩]
  rfl
theorem ex_pars : parsR exL = (exE, ofL [120], 0) := by
  unfold parsR
  rw [if_neg (by decide), ex_elems]
  show fin exE [120] = _
  unfold fin
  rw [if_neg (by simp [exE]), if_pos ex_ck]
theorem works_ev : Ev (fun k => gonglaw10_works.f k) true := by
  have hp := parse_ev ⟨#[91, 97, 32, 98, 61, 34, 99, 92, 93, 34, 93, 120]⟩ (by decide)
  rw [show parsR (⟨#[91, 97, 32, 98, 61, 34, 99, 92, 93, 34, 93, 120]⟩ : ByteArray).data.toList = (exE, ofL [120], 0) from ex_pars] at hp
  unfold gonglaw10_works.f
  refine Ev.bind hp ?_
  have hs := same_ev exE exE (by simp [exE]) (by intro x hx; simp [exE] at hx; subst hx; simp)
  rw [eqEs_iff.mpr rfl] at hs
  refine Ev.congr (fun k => ?_) (Ev.bind hs (Ev.now true))
  rw [if_pos rfl, if_pos (by rw [toList_L]; rfl)]
  rfl
theorem esc_count (l : List UInt8) : (esc l).length = l.length + (l.count 92 + l.count 93 + l.count 34) := by
  induction l with
  | nil => rfl
  | cons b l ih =>
    have e : esc (b :: l) = one b ++ esc l := by unfold esc; rw [List.flatMap_cons]
    rw [e, List.length_append, one_len, ih, List.length_cons, List.count_cons, List.count_cons, List.count_cons]
    by_cases h : sp b = true
    · rw [if_pos h]
      have h3 := sp_byte.mp h
      rcases h3 with h3 | h3 | h3
      · have : b = 34 := UInt8.toNat_inj.mp h3
        subst this
        simp
        omega
      · have : b = 93 := UInt8.toNat_inj.mp h3
        subst this
        simp
        omega
      · have : b = 92 := UInt8.toNat_inj.mp h3
        subst this
        simp
        omega
    · rw [if_neg h]
      have hz : ∀ c : UInt8, sp c = true → (b == c) = false := by
        intro c hc
        rw [beq_eq_false_iff_ne]
        rintro rfl
        exact h hc
      rw [hz 92 (by decide), hz 93 (by decide), hz 34 (by decide)]
      simp
      omega
theorem esc_pars (n : Nat) (a : List UInt8) : elems (n + 3) ([91, 105, 32, 110, 61, 34] ++ esc a ++ [34, 93]) = some ([⟨⟨#[105]⟩, [⟨⟨#[110]⟩, ofL a⟩]⟩], []) := by
  have hA : nmA (105 :: 32 :: 110 :: 61 :: 34 :: (esc a ++ [34, 93])) = [105] ∧ nmB (105 :: 32 :: 110 :: 61 :: 34 :: (esc a ++ [34, 93])) = 32 :: 110 :: 61 :: 34 :: (esc a ++ [34, 93]) :=
    nm_stop (p := [105]) (by decide) (c := 32) (by decide) _
  have hB : nmA (110 :: 61 :: 34 :: (esc a ++ [34, 93])) = [110] ∧ nmB (110 :: 61 :: 34 :: (esc a ++ [34, 93])) = 61 :: 34 :: (esc a ++ [34, 93]) :=
    nm_stop (p := [110]) (by decide) (c := 61) (by decide) _
  have hV : val (esc a ++ [34, 93]) = some (a, [34, 93]) := val_esc a [93]
  have hP : pars (n + 3) (32 :: 110 :: 61 :: 34 :: (esc a ++ [34, 93])) = some ([⟨⟨#[110]⟩, ofL a⟩], []) := by
    rw [pars, if_pos (by rfl)]
    simp only [List.drop_succ_cons, List.drop_zero]
    rw [hB.1, hB.2, if_pos (by rfl)]
    simp only [List.drop_succ_cons, List.drop_zero]
    rw [hV]
    simp only [Option.bind_some, List.drop_succ_cons, List.drop_zero]
    rw [pars, if_neg (by decide), if_pos (by rfl)]
    rfl
  rw [List.append_assoc]
  show elems (n + 3) (91 :: 105 :: 32 :: 110 :: 61 :: 34 :: (esc a ++ [34, 93])) = _
  rw [elems, if_pos (by rfl)]
  simp only [List.drop_succ_cons, List.drop_zero]
  unfold elem
  rw [hA.1, hA.2, hP]
  simp only [Option.map_some, Option.bind_some]
  rw [elems, if_neg (by decide)]
  rfl
end Go.Proofs.Ytgopphglkjdcaaa.Qt
end
/-! QtW -/
section
/- Printing: the text of data, and that it is parsed as it was. -/
namespace Go.Proofs.Ytgopphglkjdcaaa.Qt
open Go Go.RowKit Go.Proofs.Ytgopphglkjdcaaa.Px Go.Proofs.YtgopphglkjdcaaaW.PrintWords Go.Proofs.Ytgopphglkjdcaaa.Str
def ptx (p : PR) : List UInt8 := 32 :: (p.f0.data.toList ++ (61 :: 34 :: (esc p.f1.data.toList ++ [34])))
def etx (x : EL) : List UInt8 := 91 :: (x.f0.data.toList ++ (x.f1.flatMap ptx ++ [93]))
def txt (l : List EL) : List UInt8 := l.flatMap etx
def mild (p : PR) : Prop := p.f0.size ≤ 1000000 ∧ p.f1.size ≤ 1000000
def tiny (x : EL) : Prop := x.f0.size ≤ 1000000 ∧ x.f1.length ≤ 4096 ∧ ∀ p ∈ x.f1, mild p
theorem ptx_app (p : PR) (t : List UInt8) : ptx p ++ t = 32 :: (p.f0.data.toList ++ 61 :: 34 :: (esc p.f1.data.toList ++ 34 :: t)) := by unfold ptx; simp [List.append_assoc]
theorem etx_app (x : EL) (t : List UInt8) : etx x ++ t = 91 :: (x.f0.data.toList ++ (x.f1.flatMap ptx ++ 93 :: t)) := by unfold etx; simp [List.append_assoc]
theorem ptx_len (p : PR) : (ptx p).length = p.f0.size + (esc p.f1.data.toList).length + 4 := by
  unfold ptx
  simp only [List.length_cons, List.length_append, List.length_nil, size_L]
  omega
theorem ptx_le {p : PR} (h : mild p) : (ptx p).length ≤ 4000000 := by
  rw [ptx_len]
  have := (esc_len p.f1.data.toList).2
  rw [← size_L] at this
  have := h.1
  have := h.2
  omega
theorem ptxs_le : ∀ ps : List PR, (∀ p ∈ ps, mild p) → (ps.flatMap ptx).length ≤ 4000000 * ps.length
  | [], _ => by simp
  | p :: ps, h => by
    rw [List.flatMap_cons, List.length_append, List.length_cons]
    have h1 := ptx_le (h p List.mem_cons_self)
    have h2 := ptxs_le ps (fun x hx => h x (List.mem_cons_of_mem p hx))
    omega
theorem etx_len (x : EL) : (etx x).length = x.f0.size + (x.f1.flatMap ptx).length + 2 := by
  unfold etx
  rw [List.length_cons, List.length_append, List.length_append, List.length_singleton, size_L]
  omega
theorem par_f {p : PR} (h : mild p) : quote_Print.par p = some (ofL (esc p.f1.data.toList), ofL (ptx p)) := by
  unfold quote_Print.par
  have h1 := h.1
  have h2 := h.2
  have h3 := (esc_len p.f1.data.toList).2
  rw [← size_L] at h3
  rw [if_pos (by omega), escape_f _ (by omega), Option.bind_some, if_pos (by rw [ofL_size]; omega)]
  congr 2
  refine ext ?_
  simp only [app_L, ofL_L]
  unfold ptx
  simp [List.append_assoc]
theorem ps_f : ∀ (ps : List PR) (acc : List UInt8), (∀ p ∈ ps, mild p) → acc.length + 4000000 * ps.length ≤ 35184372088832 → quote_Print.ps ps acc = some (acc ++ ps.flatMap ptx)
  | [], acc, _, _ => by rw [quote_Print.ps]; simp
  | p :: ps, acc, h, hl => by
    rw [List.length_cons] at hl
    have h1 := ptx_le (h p List.mem_cons_self)
    rw [quote_Print.ps, par_f (h p List.mem_cons_self), Option.bind_some, if_pos (by omega), ps_f ps _ (fun x hx => h x (List.mem_cons_of_mem p hx)) (by rw [ofL_L, List.length_append]; omega), List.flatMap_cons, ofL_L, List.append_assoc]
theorem go_f : ∀ (l : List EL) (acc : List UInt8), (∀ x ∈ l, tiny x) → acc.length ≤ 65536 → quote_Print.go l acc = some (if 65536 < (acc ++ txt l).length then (⟨#[]⟩, 2) else (ofL (acc ++ txt l), 0))
  | [], acc, _, ha => by
    rw [quote_Print.go]
    unfold txt
    rw [List.flatMap_nil, List.append_nil, if_neg (by omega)]
    rfl
  | x :: l, acc, h, ha => by
    have hx := h x List.mem_cons_self
    have hx1 := hx.1
    have hx2 := hx.2.1
    have hps := ptxs_le x.f1 hx.2.2
    have e91 : (⟨#[91]⟩ ++ x.f0 : ByteArray).data.toList = 91 :: x.f0.data.toList := by rw [app_L]; rfl
    have e1 : acc ++ (⟨#[91]⟩ ++ x.f0 : ByteArray).data.toList ++ x.f1.flatMap ptx ++ [93] = acc ++ etx x := by
      rw [e91]
      unfold etx
      simp [List.append_assoc]
    have e2 : (acc ++ (⟨#[91]⟩ ++ x.f0 : ByteArray).data.toList ++ x.f1.flatMap ptx).length + 1 = (acc ++ etx x).length := by
      rw [← e1, List.length_append (bs := [93])]
      rfl
    have e3 : txt (x :: l) = etx x ++ txt l := by unfold txt; rw [List.flatMap_cons]
    have e4 := etx_len x
    rw [quote_Print.go, if_pos ⟨by omega, by omega, by omega⟩, ps_f x.f1 _ hx.2.2 (by rw [e91, List.length_append, List.length_cons, ← size_L]; omega), Option.bind_some,
      if_pos (by have h7 : (acc ++ etx x).length = acc.length + (etx x).length := List.length_append; omega), e2, e1, e3, ← List.append_assoc]
    by_cases hlong : 65536 < (acc ++ etx x).length
    · rw [if_pos hlong, if_pos (by rw [List.length_append]; omega)]
    · rw [if_neg hlong]
      exact go_f l _ (fun y hy => h y (List.mem_cons_of_mem x hy)) (by omega)
def printR (l : List EL) : ByteArray × Int := if ckD l = 0 then (if l = [] then (⟨#[45]⟩, 0) else if 65536 < (txt l).length then (⟨#[]⟩, 2) else (ofL (txt l), 0)) else (⟨#[]⟩, ckD l)
theorem check_big (l : List EL) (h : 4096 < l.length) : Ev (fun k => quote_Check.f k l) (ckD l) := by
  unfold quote_Check.f ckD
  rw [if_pos h]
  exact Ev.congr (f := fun _ => some 100) (fun k => if_pos h) (Ev.now _)
theorem ck_short {l : List EL} (h : ckD l = 0) : l.length ≤ 4096 := by
  unfold ckD at h
  by_cases h4 : 4096 < l.length
  · rw [if_pos h4] at h
    exact absurd h (by decide)
  · omega
theorem print_ev (l : List EL) (hc : Ev (fun k => quote_Check.f k l) (ckD l)) (h : ckD l = 0 → ∀ x ∈ l, tiny x) : Ev (fun k => quote_Print.f k l) (printR l) := by
  unfold quote_Print.f printR
  refine Ev.bind hc ?_
  by_cases h0 : ckD l = 0
  · simp only [if_pos h0]
    have hl := ck_short h0
    have ht := h h0
    by_cases hn : l = []
    · subst hn
      exact Ev.now ((⟨#[45]⟩ : ByteArray), (0 : Int))
    · simp only [if_neg hn]
      have hnl : ¬ (l.length : Int) = 0 := fun z => hn (List.length_eq_zero_iff.mp (by omega))
      refine Ev.congr (f := fun _ => some _) (fun k => ?_) (Ev.now _)
      rw [if_neg hnl, if_pos (by omega), go_f l [] ht (by simp), List.nil_append]
  · simp only [if_neg h0]
    exact Ev.now _
-- ---- there and back
theorem pars_back : ∀ (ps : List PR) (n : Nat) (r : List UInt8), (∀ p ∈ ps, isName p.f0.data.toList = true) → ps.length < n → pars n (ps.flatMap ptx ++ 93 :: r) = some (ps, r)
  | [], n, r, _, hn => by
    obtain ⟨n, rfl⟩ : ∃ m, n = m + 1 := ⟨n - 1, by simp at hn; omega⟩
    rw [List.flatMap_nil, List.nil_append, pars, if_neg (by simp), if_pos (by simp)]
    rfl
  | p :: ps, n, r, h, hn => by
    rw [List.length_cons] at hn
    obtain ⟨n, rfl⟩ : ∃ m, n = m + 1 := ⟨n - 1, by omega⟩
    have ih := pars_back ps n r (fun x hx => h x (List.mem_cons_of_mem p hx)) (by omega)
    have hnm := name_free (h p List.mem_cons_self)
    have e : (p :: ps).flatMap ptx ++ 93 :: r = 32 :: (p.f0.data.toList ++ 61 :: 34 :: (esc p.f1.data.toList ++ 34 :: (ps.flatMap ptx ++ 93 :: r))) := by
      rw [List.flatMap_cons, List.append_assoc, ptx_app]
    have hs := nm_stop hnm (c := 61) (by decide) (34 :: (esc p.f1.data.toList ++ 34 :: (ps.flatMap ptx ++ 93 :: r)))
    rw [e, pars, if_pos (by simp)]
    simp only [List.drop_succ_cons, List.drop_zero]
    rw [hs.1, hs.2, if_pos (by simp)]
    simp only [List.drop_succ_cons, List.drop_zero]
    rw [val_esc]
    simp only [Option.bind_some, List.drop_succ_cons, List.drop_zero]
    rw [ih, ofL_of, ofL_of]
    rfl
theorem elem_back (x : EL) (n : Nat) (r : List UInt8) (h : okE x = true) (hn : x.f1.length < n) : elem n (x.f0.data.toList ++ (x.f1.flatMap ptx ++ 93 :: r)) = some (x, r) := by
  unfold okE at h
  rw [Bool.and_eq_true, Bool.and_eq_true, List.all_eq_true] at h
  have hps : ∀ p ∈ x.f1, isName p.f0.data.toList = true := by
    intro p hp
    have := h.2.2 p hp
    unfold okP at this
    rw [Bool.and_eq_true] at this
    exact this.1
  have hnm := name_free h.1
  have hs : nmA (x.f0.data.toList ++ (x.f1.flatMap ptx ++ 93 :: r)) = x.f0.data.toList ∧ nmB (x.f0.data.toList ++ (x.f1.flatMap ptx ++ 93 :: r)) = x.f1.flatMap ptx ++ 93 :: r := by
    cases hp : x.f1 with
    | nil => exact nm_stop hnm (c := 93) (by decide) r
    | cons p ps =>
      have e : (p :: ps).flatMap ptx ++ 93 :: r = 32 :: (p.f0.data.toList ++ 61 :: 34 :: (esc p.f1.data.toList ++ 34 :: (ps.flatMap ptx ++ 93 :: r))) := by
        rw [List.flatMap_cons, List.append_assoc, ptx_app]
      rw [e]
      exact nm_stop hnm (c := 32) (by decide) _
  unfold elem
  rw [hs.1, hs.2, pars_back x.f1 n r hps hn, ofL_of]
  rfl
theorem elems_back : ∀ (l : List EL) (n : Nat) (r : List UInt8), (∀ x ∈ l, okE x = true) → ¬ r.take 1 = [91] → (txt l ++ r).length < n → elems n (txt l ++ r) = some (l, r)
  | [], n, r, _, hr, hn => by
    obtain ⟨n, rfl⟩ : ∃ m, n = m + 1 := ⟨n - 1, by omega⟩
    show elems (n + 1) r = _
    rw [elems, if_neg hr]
  | x :: l, n, r, h, hr, hn => by
    have e3 : txt (x :: l) ++ r = 91 :: (x.f0.data.toList ++ (x.f1.flatMap ptx ++ 93 :: (txt l ++ r))) := by
      unfold txt
      rw [List.flatMap_cons, List.append_assoc, etx_app]
    have hlen := congrArg List.length e3
    rw [List.length_cons, List.length_append (bs := x.f1.flatMap ptx ++ 93 :: (txt l ++ r)), List.length_append (bs := 93 :: (txt l ++ r)), List.length_cons] at hlen
    have hpl : ∀ ps : List PR, ps.length ≤ (ps.flatMap ptx).length := by
      intro ps
      induction ps with
      | nil => exact Nat.le_refl _
      | cons p ps ih =>
        rw [List.flatMap_cons, List.length_append, List.length_cons, ptx_len]
        omega
    have hp1 := hpl x.f1
    obtain ⟨n, rfl⟩ : ∃ m, n = m + 1 := ⟨n - 1, by omega⟩
    rw [e3, elems, if_pos (by simp)]
    simp only [List.drop_succ_cons, List.drop_zero]
    rw [elem_back x (n + 1) _ (h x List.mem_cons_self) (by omega)]
    simp only [Option.bind_some]
    rw [elems_back l n r (fun y hy => h y (List.mem_cons_of_mem x hy)) hr (by omega)]
    rfl
theorem ckGo_ok : ∀ (l : List EL) (seen : List (List UInt8)), ckGo seen l = 0 → ∀ x ∈ l, okE x = true
  | [], _, _, x, hx => by cases hx
  | y :: l, seen, h, x, hx => by
    rw [ckGo] at h
    by_cases hc : okE y = true ∧ y.f0.data.toList ∉ seen
    · rw [if_pos hc] at h
      rcases List.mem_cons.mp hx with rfl | hx
      · exact hc.1
      · exact ckGo_ok l _ h x hx
    · rw [if_neg hc] at h
      exact absurd h (by decide)
theorem ck_ok {l : List EL} (h : ckD l = 0) : ∀ x ∈ l, okE x = true := by
  have h4 := ck_short h
  unfold ckD at h
  rw [if_neg (by omega)] at h
  exact ckGo_ok l [] h
theorem parsR_back (l : List EL) (r : List UInt8) (hc : ckD l = 0) (hn : l ≠ []) (hr : ¬ r.take 1 = [91]) : parsR (txt l ++ r) = (l, ofL r, 0) := by
  unfold parsR
  obtain ⟨x, l', rfl⟩ : ∃ x l', l = x :: l' := by
    cases l with
    | nil => exact absurd rfl hn
    | cons x l' => exact ⟨x, l', rfl⟩
  have e3 : txt (x :: l') ++ r = 91 :: (x.f0.data.toList ++ (x.f1.flatMap ptx ++ 93 :: (txt l' ++ r))) := by
    unfold txt
    rw [List.flatMap_cons, List.append_assoc, etx_app]
  have h45 : ¬ (txt (x :: l') ++ r).take 1 = [45] := by rw [e3]; simp
  rw [if_neg h45, elems_back (x :: l') _ r (ck_ok hc) hr (by omega)]
  simp only
  unfold fin
  rw [if_neg hn, if_pos hc]
/-- What is printed of parsed data is at most twice as long as what was parsed. -/
theorem pars_text (n : Nat) : ∀ (l : List UInt8) {ps : List PR} {r : List UInt8}, pars n l = some (ps, r) → (ps.flatMap ptx).length + 1 + r.length ≤ 2 * l.length - r.length ∧ r <:+ l := by
  induction n with
  | zero => intro l ps r h; simp [pars] at h
  | succ n ih =>
    intro l ps r h
    have hrl := (pars_len (n + 1) l h).1
    rw [pars] at h
    split at h
    · rename_i h1
      have e1 := congrArg List.length (take_one h1)
      rw [List.length_cons, List.length_drop] at e1
      split at h
      · rename_i h2
        obtain ⟨⟨v, q⟩, hv, h⟩ := Option.bind_eq_some_iff.mp h
        obtain ⟨⟨ps', r'⟩, hp, h⟩ := Option.map_eq_some_iff.mp h
        simp only at hp
        injection h with h3 h4
        simp only at h3 h4
        subst h3
        subst h4
        have h5 := (val_len _ hv).1
        have h5s := val_suffix _ hv
        have h6 := ih _ hp
        have hrl2 := (pars_len n _ hp).1
        have hnm := nm_app (l.drop 1)
        have hnl := congrArg List.length hnm
        have hBd := nmB_drop (l.drop 1)
        rw [List.length_append, List.length_drop] at hnl
        have he := (esc_len v).2
        have e2 := congrArg List.length (take_two h2)
        rw [List.length_cons, List.length_cons] at e2
        rw [List.length_drop] at h5 h6 e2 hrl2
        rw [List.flatMap_cons, List.length_append, ptx_len]
        simp only [ofL_size, ofL_L]
        refine ⟨by omega, ?_⟩
        refine h6.2.trans ((List.drop_suffix 1 q).trans ?_)
        rw [h5s]
        refine (List.drop_suffix _ _).trans ((List.drop_suffix 2 _).trans ?_)
        rw [hBd]
        exact (List.drop_suffix _ _).trans (List.drop_suffix 1 l)
      · cases h
    · split at h
      · rename_i h1
        have e1 := congrArg List.length (take_one h1)
        rw [List.length_cons, List.length_drop] at e1
        injection h with h
        injection h with h3 h4
        subst h3
        subst h4
        rw [List.flatMap_nil, List.length_nil, List.length_drop]
        exact ⟨by omega, List.drop_suffix 1 l⟩
      · cases h
end Go.Proofs.Ytgopphglkjdcaaa.Qt
end
/-! QtM -/
section
/- Data that are few and short; how long the text of parsed data is. -/
namespace Go.Proofs.Ytgopphglkjdcaaa.Qt
open Go Go.RowKit Go.Proofs.Ytgopphglkjdcaaa.Px Go.Proofs.YtgopphglkjdcaaaW.PrintWords Go.Proofs.Ytgopphglkjdcaaa.Str
theorem small_l1 (l : List EL) (hl : l.length ≤ 1073741824 * 8192) (i : Nat) (hi : i < l.length) (hw : l[i].f1.length ≤ 20) (b' : Bool) (hb : Ev (fun k => gonglaw10_small.l0 k l ((i + 1 : Nat) : Int)) b') (d : Nat) : ∀ j : Nat, j + d = l[i].f1.length →
    ∃ b, Ev (fun k => gonglaw10_small.l1 k l (i : Int) (j : Int)) b ∧ (b = true → b' = true ∧ ∀ p ∈ l[i].f1.drop j, mild p) := by
  induction d with
  | zero =>
    intro j hj
    refine ⟨b', Ev.step (fun k => ?_) hb, fun h => ⟨h, fun p hp => by rw [List.drop_eq_nil_of_le (by omega)] at hp; cases hp⟩⟩
    simp only [gonglaw10_small.l1]
    rw [if_pos (by omega), if_pos (by omega), rdE l i hi, if_neg (by omega), wrap64_id (by omega) (by omega)]
    rfl
  | succ d ih =>
    intro j hj
    have hj1 : j < l[i].f1.length := by omega
    by_cases h1 : (l[i].f1[j].f1.size : Int) > 1000
    · refine ⟨false, Ev.step (f := fun _ => some false) (fun k => ?_) (Ev.now _), fun h => by cases h⟩
      simp only [gonglaw10_small.l1]
      rw [if_pos (by omega), if_pos (by omega), rdE l i hi, if_pos (by omega), if_pos (by omega), rdP _ j hj1, if_pos h1]
    · by_cases h2 : (l[i].f1[j].f0.size : Int) > 100
      · refine ⟨false, Ev.step (f := fun _ => some false) (fun k => ?_) (Ev.now _), fun h => by cases h⟩
        simp only [gonglaw10_small.l1]
        rw [if_pos (by omega), if_pos (by omega), rdE l i hi, if_pos (by omega), if_pos (by omega), rdP _ j hj1, if_neg h1, if_pos h2]
      · obtain ⟨b, hev, hbb⟩ := ih (j + 1) (by omega)
        refine ⟨b, Ev.step (fun k => ?_) hev, fun h => ⟨(hbb h).1, fun p hp => ?_⟩⟩
        · simp only [gonglaw10_small.l1]
          rw [if_pos (by omega), if_pos (by omega), rdE l i hi, if_pos (by omega), if_pos (by omega), rdP _ j hj1, if_neg h1, if_neg h2, wrap64_id (by omega) (by omega)]
          rfl
        · rw [List.drop_eq_getElem_cons hj1] at hp
          rcases List.mem_cons.mp hp with rfl | hp
          · exact ⟨by omega, by omega⟩
          · exact (hbb h).2 p hp
theorem small_l0 (l : List EL) (hl : l.length ≤ 1073741824 * 8192) (d : Nat) : ∀ i : Nat, 40 ≤ i + d → i ≤ l.length → ∃ b, Ev (fun k => gonglaw10_small.l0 k l (i : Int)) b ∧ (b = true → ∀ m, (hm : m < l.length) → i ≤ m → m < 40 → tiny l[m]) := by
  have stop : ∀ i : Nat, ¬ (i < l.length ∧ i < 40) → Ev (fun k => gonglaw10_small.l0 k l (i : Int)) true := by
    intro i h
    refine Ev.step (f := fun k => gonglaw10_small.j2 k l (i : Int) false) (fun k => ?_) (Ev.step (f := fun _ => some true) (fun k => ?_) (Ev.now _))
    · simp only [gonglaw10_small.l0]
      by_cases h1 : (i : Int) < (l.length : Int)
      · rw [if_pos h1, decide_eq_false (by omega)]
      · rw [if_neg h1]
    · simp only [gonglaw10_small.j2]
      rw [if_neg (by decide)]
  induction d with
  | zero =>
    intro i h1 h2
    exact ⟨true, stop i (by omega), fun _ m hm h3 h4 => by omega⟩
  | succ d ih =>
    intro i h1 h2
    by_cases h : i < l.length ∧ i < 40
    case neg => exact ⟨true, stop i h, fun _ m hm h3 h4 => by omega⟩
    obtain ⟨hi, h40⟩ := h
    obtain ⟨b', hb', hP⟩ := ih (i + 1) (by omega) (by omega)
    have s1 : ∀ (b : Bool) (f : Nat → Option Bool), (∀ k, gonglaw10_small.j2 (k + 1) l (i : Int) true = f k) → Ev f b → Ev (fun k => gonglaw10_small.l0 k l (i : Int)) b := by
      intro b f hf hev
      refine Ev.step (f := fun k => gonglaw10_small.j2 k l (i : Int) true) (fun k => ?_) (Ev.step hf hev)
      simp only [gonglaw10_small.l0]
      rw [if_pos (by omega), decide_eq_true (by omega)]
    have no : Ev (fun k => gonglaw10_small.j3 k l (i : Int) true) false := by
      refine Ev.step (f := fun _ => some false) (fun k => ?_) (Ev.now _)
      simp only [gonglaw10_small.j3]
      rw [if_pos trivial]
    by_cases h20 : (l[i].f1.length : Int) > 20
    · refine ⟨false, s1 false (fun k => gonglaw10_small.j3 k l (i : Int) true) (fun k => ?_) no, fun z => by cases z⟩
      simp only [gonglaw10_small.j2]
      rw [if_pos trivial, if_pos (by omega), if_pos (by omega), rdE l i hi, if_pos h20]
    · by_cases h100 : (l[i].f0.size : Int) > 100
      · refine ⟨false, s1 false (fun k => gonglaw10_small.j3 k l (i : Int) true) (fun k => ?_) no, fun z => by cases z⟩
        simp only [gonglaw10_small.j2]
        rw [if_pos trivial, if_pos (by omega), if_pos (by omega), rdE l i hi, if_neg h20, decide_eq_true h100]
      · obtain ⟨b, hev, hbb⟩ := small_l1 l hl i hi (by omega) b' hb' l[i].f1.length 0 (by omega)
        refine ⟨b, s1 b (fun k => gonglaw10_small.j3 k l (i : Int) false) (fun k => ?_) (Ev.step (fun k => ?_) hev), fun z m hm h3 h4 => ?_⟩
        · simp only [gonglaw10_small.j2]
          rw [if_pos trivial, if_pos (by omega), if_pos (by omega), rdE l i hi, if_neg h20, decide_eq_false h100]
        · simp only [gonglaw10_small.j3]
          rw [if_neg (by decide)]
          rfl
        · have hz := hbb z
          rcases Nat.eq_or_lt_of_le h3 with rfl | h3
          · exact ⟨by omega, by omega, by simpa using hz.2⟩
          · exact hP hz.1 m hm h3 h4
theorem small_ev (l : List EL) (hl : l.length ≤ 1073741824 * 8192) : ∃ b, Ev (fun k => gonglaw10_small.f k l) b ∧ (b = true → l.length ≤ 4096 → l.length ≤ 20 ∧ ∀ x ∈ l, tiny x) := by
  have no : Ev (fun k => gonglaw10_small.j0 k l true) false := by
    refine Ev.step (f := fun _ => some false) (fun k => ?_) (Ev.now _)
    simp only [gonglaw10_small.j0]
    rw [if_pos trivial]
  obtain ⟨b, hev, hb⟩ := small_l0 l hl 40 0 (by omega) (by omega)
  have go : Ev (fun k => gonglaw10_small.j0 k l false) b := by
    refine Ev.step (fun k => ?_) hev
    simp only [gonglaw10_small.j0]
    rw [if_neg (by decide)]
    rfl
  unfold gonglaw10_small.f
  by_cases h8 : (l.length : Int) > 8192
  · refine ⟨false, Ev.congr (fun k => ?_) no, fun z => by cases z⟩
    rw [if_pos (by omega), if_neg (by omega), decide_eq_true h8]
  · by_cases h20 : (l.length : Int) > 20
    · by_cases h4 : (l.length : Int) ≤ 4096
      · exact ⟨false, Ev.congr (fun k => by rw [if_pos h20, if_pos h4]) no, fun z => by cases z⟩
      · exact ⟨b, Ev.congr (fun k => by rw [if_pos h20, if_neg h4, decide_eq_false h8]) go, fun _ z => by omega⟩
    · refine ⟨b, Ev.congr (fun k => by rw [if_neg h20, decide_eq_false h8]) go, fun z _ => ⟨by omega, fun x hx => ?_⟩⟩
      obtain ⟨m, hm, rfl⟩ := List.mem_iff_getElem.mp hx
      exact hb z m hm (Nat.zero_le _) (by omega)
theorem elems_text (n : Nat) : ∀ (l : List UInt8) {xs : List EL} {r : List UInt8}, elems n l = some (xs, r) → (txt xs).length + 2 * r.length ≤ 2 * l.length ∧ r <:+ l := by
  induction n with
  | zero => intro l xs r h; simp [elems] at h
  | succ n ih =>
    intro l xs r h
    rw [elems] at h
    split at h
    · rename_i h1
      have e1 := congrArg List.length (take_one h1)
      rw [List.length_cons, List.length_drop] at e1
      obtain ⟨⟨x, q⟩, hx, h⟩ := Option.bind_eq_some_iff.mp h
      obtain ⟨⟨xs', r'⟩, hr, h⟩ := Option.map_eq_some_iff.mp h
      simp only at hr
      injection h with h3 h4
      simp only at h3 h4
      subst h3
      subst h4
      have h5 := ih _ hr
      unfold elem at hx
      obtain ⟨⟨ps, r2⟩, hp, hx⟩ := Option.map_eq_some_iff.mp hx
      injection hx with h1 h2
      simp only at h1 h2
      subst h1
      subst h2
      have h6 := pars_text _ _ hp
      have hrl := (pars_len _ _ hp).1
      have hnm := congrArg List.length (nm_app (l.drop 1))
      rw [List.length_append, List.length_drop] at hnm
      have e3 : txt (⟨ofL (nmA (l.drop 1)), ps⟩ :: xs') = etx ⟨ofL (nmA (l.drop 1)), ps⟩ ++ txt xs' := by unfold txt; rw [List.flatMap_cons]
      rw [e3, List.length_append, etx_len]
      simp only [ofL_size]
      refine ⟨by omega, h5.2.trans (h6.2.trans ?_)⟩
      rw [nmB_drop]
      exact (List.drop_suffix _ _).trans (List.drop_suffix 1 l)
    · injection h with h
      injection h with h3 h4
      subst h3
      subst h4
      exact ⟨by show (0 : Nat) + _ ≤ _; omega, List.suffix_refl _⟩
theorem ptx_mem {p : PR} : ∀ {ps : List PR}, p ∈ ps → (ptx p).length ≤ (ps.flatMap ptx).length
  | q :: ps, h => by
    rw [List.flatMap_cons, List.length_append]
    rcases List.mem_cons.mp h with rfl | h
    · omega
    · have := ptx_mem h; omega
theorem etx_mem {x : EL} : ∀ {xs : List EL}, x ∈ xs → (etx x).length ≤ (txt xs).length
  | y :: xs, h => by
    have e : txt (y :: xs) = etx y ++ txt xs := by unfold txt; rw [List.flatMap_cons]
    rw [e, List.length_append]
    rcases List.mem_cons.mp h with rfl | h
    · omega
    · have := etx_mem h; omega
theorem ptx_many : ∀ ps : List PR, ps.length ≤ (ps.flatMap ptx).length
  | [] => Nat.le_refl _
  | p :: ps => by
    rw [List.flatMap_cons, List.length_append, List.length_cons, ptx_len]
    have := ptx_many ps
    omega
theorem tiny_text {xs : List EL} (h : (txt xs).length ≤ 4096) : ∀ x ∈ xs, tiny x := by
  intro x hx
  have h1 := etx_mem hx
  rw [etx_len] at h1
  have h2 := ptx_many x.f1
  refine ⟨by omega, by omega, fun p hp => ?_⟩
  have h3 := ptx_mem hp
  rw [ptx_len] at h3
  have h4 := (esc_len p.f1.data.toList).1
  rw [← size_L] at h4
  exact ⟨by omega, by omega⟩
theorem suffix_f (s r : ByteArray) (hs : s.size ≤ 1073741824) (h : r.data.toList <:+ s.data.toList) : strings_HasSuffix.f s r = some true := by
  have hl := h.length_le
  rw [← size_L, ← size_L] at hl
  have hd := List.suffix_iff_eq_drop.mp h
  rw [← size_L, ← size_L] at hd
  unfold strings_HasSuffix.f stringslite_HasSuffix.f
  have W := Lib.hid (show wrap64 ((s.size : Int) - (r.size : Int)) = ((s.size - r.size : Nat) : Int) by rw [wrap64_id (by omega) (by omega)]; omega)
  rw [if_pos (by omega), W.out, if_pos (by omega), if_pos (by omega), Int.toNat_natCast, toList_L, toList_L, post_L, ← hd]
  simp
end Go.Proofs.Ytgopphglkjdcaaa.Qt
end
/-! PureQuoteGet -/
section
/- The statement QuoteGet over whole numbers and lists alone. -/
namespace Go.Proofs.Ytgopphglkjdcaaa.Qt
open Go Go.RowKit Go.Proofs.Ytgopphglkjdcaaa.Px Go.Proofs.YtgopphglkjdcaaaW.PrintWords Go.Proofs.Ytgopphglkjdcaaa.Str
def getR (a n : ByteArray) : List EL → ByteArray × Bool
  | [] => (⟨#[]⟩, false)
  | x :: l => if x.f0.toList = a.toList then quote_Get.par n x.f1 else getR a n l
theorem idx_spec (a n : ByteArray) : ∀ (l : List EL) (i : Nat), (quote_Get.idx a l i < 0 ∧ getR a n l = (⟨#[]⟩, false)) ∨ ∃ j, ∃ h : j < l.length, quote_Get.idx a l i = ((i + j : Nat) : Int) ∧ getR a n l = quote_Get.par n l[j].f1
  | [], i => .inl ⟨by rw [quote_Get.idx]; decide, rfl⟩
  | x :: l, i => by
    rw [quote_Get.idx, getR]
    by_cases h : x.f0.toList = a.toList
    · rw [if_pos h, if_pos h]
      exact .inr ⟨0, by simp, rfl, rfl⟩
    · rw [if_neg h, if_neg h]
      rcases idx_spec a n l (i + 1) with ih | ⟨j, hj, h1, h2⟩
      · exact .inl ih
      · exact .inr ⟨j + 1, by simp; exact hj, by rw [h1]; congr 1; omega, h2⟩
theorem get_f (a n : ByteArray) (l : List EL) (hl : l.length ≤ 1073741824) (hw : ∀ x ∈ l, x.f1.length ≤ 1073741824) : quote_Get.f l a n = some (getR a n l) := by
  unfold quote_Get.f
  rw [if_pos hl]
  rcases idx_spec a n l 0 with ⟨h1, h2⟩ | ⟨j, hj, h1, h2⟩
  · rw [if_pos h1, h2]
  · rw [Nat.zero_add] at h1
    rw [if_neg (by rw [h1]; omega), h1, rdE l j hj, if_pos (hw _ (List.getElem_mem hj)), h2]
theorem par_cases (n : ByteArray) : ∀ ps : List PR, (quote_Get.par n ps).2 = true ∨ (quote_Get.par n ps).1 = ⟨#[]⟩
  | [] => .inr rfl
  | p :: ps => by
    rw [quote_Get.par]
    split
    · exact .inl rfl
    · exact par_cases n ps
theorem get_cases (a n : ByteArray) : ∀ l : List EL, (getR a n l).2 = true ∨ (getR a n l).1 = ⟨#[]⟩
  | [] => .inr rfl
  | x :: l => by
    rw [getR]
    split
    · exact par_cases n _
    · exact get_cases a n l
end Go.Proofs.Ytgopphglkjdcaaa.Qt
namespace Go.Proofs.Ytgopphglkjdcaaa.Pure
open Go Go.RowKit Go.Proofs.Ytgopphglkjdcaaa.Px Go.Proofs.YtgopphglkjdcaaaW.PrintWords Go.Proofs.Ytgopphglkjdcaaa.Str Go.Proofs.Ytgopphglkjdcaaa.Qt
theorem QuoteGet : gonglaw10_QuoteGet.PureL := by
  intro l a n _ hl ha _
  suffices H : Ev (fun k => gonglaw10_QuoteGet.f k l a n) true from H.rounds
  unfold gonglaw10_QuoteGet.f
  refine Ev.bind works_ev ?_
  simp only [if_true]
  obtain ⟨b, hb, hbb⟩ := small_ev l (by omega)
  refine Ev.bind hb ?_
  cases b with
  | false => exact Ev.congr (f := fun _ => some true) (fun k => if_neg (by simp)) (Ev.now _)
  | true =>
    refine Ev.congr (f := fun _ => some true) (fun k => ?_) (Ev.now _)
    rw [if_pos rfl]
    by_cases h20 : (l.length : Int) > 20
    · rw [if_pos h20]
    · have ht := (hbb rfl (by omega)).2
      have hw : ∀ x ∈ l, x.f1.length ≤ 1073741824 := fun x hx => by have := (ht x hx).2.1; omega
      have hx1 : getR a n (gonglaw10_QuoteGet.x1 a :: l) = getR a n l := by
        rw [getR, if_neg]
        intro z
        rw [toList_L, toList_L] at z
        have := congrArg List.length z
        rw [← size_L, ← size_L] at this
        have e : (gonglaw10_QuoteGet.x1 a).f0.size = a.size + 1 := by
          show (a ++ (⟨#[120]⟩ : ByteArray)).size = _
          rw [ByteArray.size_append]
          rfl
        omega
      have hx2 : getR a n (gonglaw10_QuoteGet.x2 a n :: l) = (⟨#[102, 114, 111, 110, 116]⟩, true) := by
        rw [getR, if_pos (show (gonglaw10_QuoteGet.x2 a n).f0.toList = a.toList from rfl)]
        show quote_Get.par n [⟨n, ⟨#[102, 114, 111, 110, 116]⟩⟩] = _
        rw [quote_Get.par, if_pos rfl]
      rw [if_neg h20, get_f a n l (by omega) hw, Option.bind_some, if_pos (by omega),
        get_f a n (gonglaw10_QuoteGet.x1 a :: l) (by rw [List.length_cons]; omega) (fun x hx => by
          rcases List.mem_cons.mp hx with rfl | hx
          · exact Nat.zero_le _
          · exact hw x hx), Option.bind_some,
        get_f a n (gonglaw10_QuoteGet.x2 a n :: l) (by rw [List.length_cons]; omega) (fun x hx => by
          rcases List.mem_cons.mp hx with rfl | hx
          · show (1 : Nat) ≤ _; omega
          · exact hw x hx), Option.bind_some, hx1, hx2, if_pos ⟨rfl, rfl, rfl, rfl, get_cases a n l⟩]
end Go.Proofs.Ytgopphglkjdcaaa.Pure
end
/-! Opens -/
section
/- What came in and can be read as data is what the print's kinds say: whole numbers, bools, texts, structs, slices, in one another. -/
namespace Go.Proofs.Ytgopphglkjdcaaa.Open
open Go Go.RowKit Go.Proofs.YtgopphglkjdcaaaW.PrintWords

/-- R: what each text, and each slice's places, weigh at most. -/
def Opens (R : Nat) {α : Type} (d : Kd α) (P : Program) (t : TypeId) (WF : α → Prop) : Prop :=
  P.cellsOf t = d.sz ∧ ∀ (H : Type) (enc : TypeId × Value → H) (W : World) (base : Nat) (sp : Nat → Bool) (held : Bool) (fuel : Nat) (cs : List Value) (y : DataW H) (p : List MemPlace),
    DataW.trod enc P W base sp held fuel t cs = some (y, p) → (∀ n ∈ y.weights P t, n ≤ R) → ∃ x, d.K W x cs ∧ WF x

theorem int {R : Nat} {P : Program} {t : TypeId} {k : IntKind} (h : P.underlying t = some (.int k)) (hc : P.cellsOf t = 1) : Opens R (Kd.int k) P t (fun n => (Lit.int k n).wf = true) := by
  refine ⟨hc, fun H enc W base sp held fuel cs y p ht _ => ?_⟩
  obtain ⟨n, rfl, _, hw⟩ := DataW.trod_int h ht
  exact ⟨n, rfl, hw⟩
theorem bool {R : Nat} {P : Program} {t : TypeId} (h : P.underlying t = some .bool) (hc : P.cellsOf t = 1) : Opens R Kd.bool P t (fun _ => True) := by
  refine ⟨hc, fun H enc W base sp held fuel cs y p ht _ => ?_⟩
  cases fuel with
  | zero => simp [DataW.trod] at ht
  | succ fuel =>
    simp only [DataW.trod, h] at ht
    split at ht <;> first | (rename_i h1 h2; cases h1) | skip
    all_goals first | (cases ht; done) | skip
    all_goals simp_all
    · exact .inl rfl
    · exact .inr rfl
theorem string {R : Nat} {P : Program} {t : TypeId} (h : P.underlying t = some .string) (hc : P.cellsOf t = 1) : Opens R Kd.string P t (fun s => s.size ≤ R) := by
  refine ⟨hc, fun H enc W base sp held fuel cs y p ht hw => ?_⟩
  obtain ⟨s, rfl, he, hs⟩ := DataW.trod_string h ht
  obtain ⟨rfl, rfl⟩ := Prod.mk.inj he
  refine ⟨s, rfl, ?_⟩
  have := hw s.data.toList.length (by simp [DataW.weights])
  simpa using this

theorem choose_list {α : Type} {Q : Nat → α → Prop} : ∀ n, (∀ i, i < n → ∃ x, Q i x) → ∃ l : List α, l.length = n ∧ ∀ i x, l[i]? = some x → Q i x
  | 0, _ => ⟨[], rfl, fun i x h => by simp at h⟩
  | n + 1, h => by
    obtain ⟨l, hl, hq⟩ := choose_list n (fun i hi => h i (by omega))
    obtain ⟨x, hx⟩ := h n (by omega)
    refine ⟨l ++ [x], by simp [hl], fun i y hy => ?_⟩
    rcases Nat.lt_trichotomy i n with hlt | rfl | hgt
    · rw [List.getElem?_append_left (by omega)] at hy
      exact hq i y hy
    · rw [List.getElem?_append_right (by omega), hl] at hy
      simp at hy
      subst hy
      exact hx
    · rw [List.getElem?_append_right (by omega)] at hy
      rw [List.getElem?_eq_none (by simp; omega)] at hy
      cases hy

theorem weights_all {H : Type} {P : Program} {e : TypeId} : ∀ {l : List (DataW H)} {i : Nat} {d : DataW H}, l[i]? = some d → ∀ n ∈ d.weights P e, n ∈ DataW.weightsAll P e l
  | x :: l, 0, d, h, n, hn => by
    simp only [List.getElem?_cons_zero, Option.some.injEq] at h
    subst h
    simp only [DataW.weightsAll, List.mem_append]
    exact .inl hn
  | x :: l, i + 1, d, h, n, hn => by
    simp only [List.getElem?_cons_succ] at h
    simp only [DataW.weightsAll, List.mem_append]
    exact .inr (weights_all h n hn)
  | [], _, _, h, _, _ => by simp at h

theorem cells_at {w : World} {base : Nat} {a : Addr} {n : Nat} {cs : List Value} (h : w.cells? base a n = some cs) : cs.length = n ∧ ∀ j u, cs[j]? = some u → w.cell? (a.add j) = some u := by
  unfold World.cells? at h
  split at h
  · have hl := Lib.mapM_length h
    simp at hl
    refine ⟨hl, fun j u hu => ?_⟩
    have hj : j < n := by
      rcases Nat.lt_or_ge j n with h' | h'
      · exact h'
      · rw [List.getElem?_eq_none (by omega)] at hu
        cases hu
    obtain ⟨b, hb, hf⟩ := Lib.mapM_at h j j (by simp [hj])
    rw [hu] at hb
    injection hb with hb
    subst hb
    exact hf
  · cases h

/-- A slice's elements, up to its length. -/
theorem slice_elems {R : Nat} {α : Type} {d : Kd α} {P : Program} {t e : TypeId} {WF : α → Prop} (ht : P.underlying t = some (.slice e)) (hd : Opens R d P e WF)
    {H : Type} {enc : TypeId × Value → H} {W : World} {base : Nat} {sp : Nat → Bool} {held : Bool} {fuel : Nat} {A : Option Addr} {len cap : Nat} {y : DataW H} {p : List MemPlace}
    (h : DataW.trod enc P W base sp held fuel t [.slice A len cap] = some (y, p)) (hw : ∀ n ∈ y.weights P t, n ≤ R) :
    ∃ l : List α, l.length = len ∧ Kd.C d W A len l ∧ len ≤ cap ∧ (∀ x ∈ l, WF x) ∧ len * P.bytesOf e ≤ R := by
  cases fuel with
  | zero => simp [DataW.trod] at h
  | succ fuel =>
    cases A with
    | none =>
      have h' := h
      simp only [DataW.trod, ht] at h'
      split at h' <;> simp_all
      exact Kd.C_nil d W
    | some a =>
      simp only [DataW.trod, ht] at h
      split at h
      · rename_i hb
        obtain ⟨elems, hm, h⟩ := Option.bind_eq_some_iff.1 h
        obtain ⟨rest, hr, h⟩ := Option.map_eq_some_iff.1 h
        simp only [Prod.mk.injEq] at h
        obtain ⟨rfl, rfl⟩ := h
        have hel : elems.length = len := by simpa using Lib.mapM_length hm
        simp only [DataW.weights, ht, List.mem_cons, List.mem_append] at hw
        have hsz := hw _ (.inl rfl)
        simp only [List.length_map, hel] at hsz
        have hex : ∀ i, i < len → ∃ x, (∃ c, c.length = d.sz ∧ d.K W x c ∧ ∀ j u, c[j]? = some u → W.cell? (a.add (i * d.sz + j)) = some u) ∧ WF x := by
          intro i hi
          obtain ⟨b, hb', hf⟩ := Lib.mapM_at hm i i (by simp [hi])
          obtain ⟨c, hc, hf⟩ := Option.bind_eq_some_iff.1 hf
          obtain ⟨hcl, hcell⟩ := cells_at hc
          obtain ⟨yb, pb⟩ := b
          obtain ⟨x, hx, hwf⟩ := hd.2 H enc W base sp held fuel c yb pb hf (fun n hn => hw n (.inr (.inl (weights_all (i := i) (d := yb) (by simp [hb']) n hn))))
          rw [hd.1] at hcell hcl
          exact ⟨x, ⟨c, hcl, hx, fun j u hu => by rw [← hcell j u hu, Addr.add_add]⟩, hwf⟩
        obtain ⟨l, hl, hq⟩ := choose_list len hex
        refine ⟨l, hl, ⟨hl, by have := hb.2; unfold maxLen at this; omega, fun _ => ⟨a, rfl, fun j x hx => (hq j x hx).1⟩⟩, hb.2.1, fun x hx => ?_, ?_⟩
        · obtain ⟨i, hi⟩ := List.mem_iff_getElem?.1 hx
          exact (hq i x hi).2
        · have h1 : len * P.bytesOf e ≤ (len + rest.length) * P.bytesOf e := Nat.mul_le_mul_right _ (by omega)
          omega
      · cases h
theorem slice {R : Nat} {α : Type} {d : Kd α} {P : Program} {t e : TypeId} {WF : α → Prop} (ht : P.underlying t = some (.slice e)) (hd : Opens R d P e WF) (hc : P.cellsOf t = 1) :
    Opens R (Kd.slice e d) P t (fun l => (∀ x ∈ l, WF x) ∧ l.length * P.bytesOf e ≤ R) := by
  refine ⟨hc, fun H enc W base sp held fuel cs y p h hw => ?_⟩
  have hform : ∃ A len cap, cs = [.slice A len cap] := by
    cases fuel with
    | zero => simp [DataW.trod] at h
    | succ fuel =>
      have h' := h
      simp only [DataW.trod, ht] at h'
      split at h' <;> first | exact ⟨_, _, _, rfl⟩ | (simp_all; done) | skip
      all_goals (simp_all)
  obtain ⟨A, len, cap, rfl⟩ := hform
  obtain ⟨l, hl, hC, hcap, hwf, hb⟩ := slice_elems ht hd h hw
  subst hl
  exact ⟨l, ⟨A, cap, rfl, hcap, hC⟩, hwf, hb⟩

/-- A struct's fields from one place on. -/
def Fields (R : Nat) {α : Type} (d : Kd α) (P : Program) (fs : List Field) (o : Nat) (WF : α → Prop) : Prop :=
  ∀ (H : Type) (enc : TypeId × Value → H) (W : World) (base : Nat) (sp : Nat → Bool) (held : Bool) (fuel : Nat) (cs : List Value) (xs : List (DataW H × List MemPlace)), cs.length = o + d.sz →
    (fs.mapM fun f => DataW.trod enc P W base sp held fuel f.type ((cs.drop f.offset).take (P.cellsOf f.type))) = some xs → (∀ n ∈ DataW.weightsEach P (fs.map (·.type)) (xs.map (·.1)), n ≤ R) → ∃ x, d.K W x (cs.drop o) ∧ WF x
theorem field_last {R : Nat} {α : Type} {d : Kd α} {P : Program} {f : Field} {o : Nat} {WF : α → Prop} (ho : f.offset = o) (hd : Opens R d P f.type WF) : Fields R d P [f] o WF := by
  intro H enc W base sp held fuel cs xs hl hm hw
  simp only [List.mapM_cons, List.mapM_nil, Option.bind_eq_bind, Option.bind_eq_some_iff, Option.pure_def, Option.some.injEq] at hm
  obtain ⟨⟨y, p⟩, hy, _, rfl, rfl⟩ := hm
  rw [ho, hd.1, List.take_of_length_le (by simp; omega)] at hy
  exact hd.2 H enc W base sp held fuel _ y p hy (fun n hn => hw n (by simp [DataW.weightsEach, hn]))
theorem field_more {R : Nat} {α β : Type} {d0 : Kd α} {d1 : Kd β} {P : Program} {f : Field} {fs : List Field} {o : Nat} {WF0 : α → Prop} {WF1 : β → Prop} (ho : f.offset = o) (h0 : Opens R d0 P f.type WF0) (h1 : Fields R d1 P fs (o + d0.sz) WF1) :
    Fields R (Kd.pair d0 d1) P (f :: fs) o (fun x => WF0 x.1 ∧ WF1 x.2) := by
  intro H enc W base sp held fuel cs xs hl hm hw
  simp only [List.mapM_cons, Option.bind_eq_bind, Option.bind_eq_some_iff, Option.pure_def, Option.some.injEq] at hm
  obtain ⟨⟨y, p⟩, hy, ys, hys, rfl⟩ := hm
  have hl' : cs.length = (o + d0.sz) + d1.sz := by rw [hl]; show o + (d0.sz + d1.sz) = _; omega
  rw [ho, h0.1] at hy
  obtain ⟨x0, hx0, hw0⟩ := h0.2 H enc W base sp held fuel _ y p hy (fun n hn => hw n (by simp [DataW.weightsEach, hn]))
  obtain ⟨x1, hx1, hw1⟩ := h1 H enc W base sp held fuel cs ys hl' hys (fun n hn => hw n (by simp only [List.map_cons, DataW.weightsEach, List.mem_append]; exact .inr hn))
  refine ⟨(x0, x1), ⟨(cs.drop o).take d0.sz, cs.drop (o + d0.sz), ?_, hx0, hx1⟩, hw0, hw1⟩
  rw [← List.drop_drop, List.take_append_drop]
theorem struct {R : Nat} {α β : Type} {d : Kd α} {P : Program} {t : TypeId} {fs : Array Field} {WF : α → Prop} (ht : P.underlying t = some (.struct fs)) (hc : P.cellsOf t = d.sz) (hf : Fields R d P fs.toList 0 WF) (f : β → α) (g : α → β) (hg : ∀ y, f (g y) = y) :
    Opens R (Kd.iso d f) P t (fun b => WF (f b)) := by
  refine ⟨hc, fun H enc W base sp held fuel cs y p h hw => ?_⟩
  cases fuel with
  | zero => simp [DataW.trod] at h
  | succ fuel =>
    simp only [DataW.trod, ht] at h
    split at h
    · rename_i hl
      obtain ⟨xs, hm, hx⟩ := Option.map_eq_some_iff.1 h
      simp only [Prod.mk.injEq] at hx
      obtain ⟨rfl, rfl⟩ := hx
      obtain ⟨x, hK, hwf⟩ := hf H enc W base sp held fuel cs xs (by omega) hm (fun n hn => hw n (by simpa [DataW.weights, ht] using hn))
      rw [List.drop_zero] at hK
      exact ⟨g x, by show d.K W (f (g x)) cs; rw [hg]; exact hK, by show WF (f (g x)); rw [hg]; exact hwf⟩
    · cases h
/-- An argument that is a slice. -/
theorem slice_arg {R : Nat} {α : Type} {d : Kd α} {P : Program} {t e : TypeId} {WF : α → Prop} (ht : P.underlying t = some (.slice e)) (hd : Opens R d P e WF)
    {H : Type} {enc : TypeId × Value → H} {W : World} {base : Nat} {sp : Nat → Bool} {held : Bool} {A : Option Addr} {len cap : Nat} {y : DataW H} {p : List MemPlace} {ts : List TypeId} {ds : List (DataW H)}
    (h : DataW.Trod enc P W base sp held t (.slice A len cap) y p) (hsz : (DataW.weightsEach P ts ds).all (· ≤ R) = true) {j : Nat} (htj : ts[j]? = some t) (hdj : ds[j]? = some y) :
    ∃ l : List α, len = l.length ∧ Kd.C d W A l.length l ∧ l.length ≤ cap ∧ (∀ x ∈ l, WF x) ∧ l.length * P.bytesOf e ≤ R := by
  obtain ⟨fuel, hf⟩ := h
  have hw : ∀ n ∈ y.weights P t, n ≤ R := fun n hn => by simpa using List.all_eq_true.1 hsz n (DataW.weights_mem_each htj hdj n hn)
  obtain ⟨l, hl, hC, hcap, hwf, hb⟩ := slice_elems ht hd (by simpa [Value.cells] using hf) hw
  subst hl
  exact ⟨l, rfl, hC, hcap, hwf, hb⟩
/-- An argument that is a struct or an array by value. -/
theorem agg_arg {R : Nat} {α : Type} {d : Kd α} {P : Program} {t : TypeId} {WF : α → Prop} (hd : Opens R d P t WF)
    {H : Type} {enc : TypeId × Value → H} {W : World} {base : Nat} {sp : Nat → Bool} {held : Bool} {cs : Array Value} {y : DataW H} {p : List MemPlace} {ts : List TypeId} {ds : List (DataW H)}
    (h : DataW.Trod enc P W base sp held t (.agg cs) y p) (hsz : (DataW.weightsEach P ts ds).all (· ≤ R) = true) {j : Nat} (htj : ts[j]? = some t) (hdj : ds[j]? = some y) :
    ∃ x, d.K W x cs.toList ∧ WF x := by
  obtain ⟨fuel, hf⟩ := h
  have hw : ∀ n ∈ y.weights P t, n ≤ R := fun n hn => by simpa using List.all_eq_true.1 hsz n (DataW.weights_mem_each htj hdj n hn)
  exact hd.2 H enc W base sp held fuel cs.toList y p (by simpa [Value.cells] using hf) hw
theorem okWide_array {P : Program} {w : World} {r : Reach} {base : Nat} {t e : TypeId} {n : Nat} {v : Value} (ht : P.underlying t = some (.array n e)) (h : Value.okWide P w r base t v) : ∃ cs, v = .agg cs ∧ cs.size = P.cellsOf t := by
  simp only [Value.okWide, ht] at h
  obtain ⟨cs, h1, h2, _⟩ := h
  exact ⟨cs, h1, h2⟩
theorem array2 {R : Nat} {α : Type} {d : Kd α} {P : Program} {t e : TypeId} {WF : α → Prop} (ht : P.underlying t = some (.array 2 e)) (hd : Opens R d P e WF) (hc : P.cellsOf t = d.sz + d.sz) :
    Opens R (Kd.pair d d) P t (fun x => WF x.1 ∧ WF x.2) := by
  refine ⟨hc, fun H enc W base sp held fuel cs y p h hw => ?_⟩
  cases fuel with
  | zero => simp [DataW.trod] at h
  | succ n =>
    simp only [DataW.trod, ht] at h
    split at h
    · rename_i hl
      obtain ⟨xs, hm, hx⟩ := Option.map_eq_some_iff.1 h
      simp only [Prod.mk.injEq] at hx
      obtain ⟨rfl, rfl⟩ := hx
      have r2 : List.range 2 = [0, 1] := rfl
      simp only [r2, List.mapM_cons, List.mapM_nil, Option.bind_eq_bind, Option.bind_eq_some_iff, Option.pure_def, Option.some.injEq] at hm
      obtain ⟨⟨y0, p0⟩, h0, ys, ⟨⟨y1, p1⟩, h1, zs, rfl, rfl⟩, rfl⟩ := hm
      rw [hd.1] at h0 h1
      simp only [DataW.weights, ht, List.map_cons, List.map_nil, DataW.weightsAll, List.mem_append] at hw
      obtain ⟨x0, k0, w0⟩ := hd.2 H enc W base sp held n _ y0 p0 h0 (fun m hm => hw m (.inl hm))
      obtain ⟨x1, k1, w1⟩ := hd.2 H enc W base sp held n _ y1 p1 h1 (fun m hm => hw m (.inr (.inl hm)))
      refine ⟨(x0, x1), ⟨_, _, ?_, k0, k1⟩, w0, w1⟩
      rw [Nat.zero_mul, List.drop_zero, Nat.one_mul, List.take_of_length_le (l := cs.drop d.sz) (by rw [List.length_drop]; omega), List.take_append_drop]
    · cases h
end Go.Proofs.Ytgopphglkjdcaaa.Open
end
/-! RQuoteGet -/
section
/- QuoteGet: for every input that the row speaks of the law returns true, and what came in reads as it did. No condition beside the form's own reach. -/
namespace Go.Proofs.Ytgopphglkjdcaaa.quoteGet
open Go.ChangeShapes Go.WideShapes Go.ChangeAt Go.RowKit Go.Proofs.YtgopphglkjdcaaaW.PrintWords
open Go.ChangeMaps (open_string shut_string)
theorem own : ownKnob Try.prog.godebug = none := by kernel_rfl
theorem laidOut : laidOutB Try.prog = true := by kernel_rfl
set_option maxRecDepth 100000 in
theorem lifted (os : Os) (started : os.Started) (H : Type) (enc : TypeId × Value → H) :
    ReturnsInHanded {} Try.checked os 4 .any (Rows.quoteGetSpec.pre6 enc Try.prog Try.f4 Rows.quoteGetRow.domain false) (Rows.quoteGetSpec.post enc Try.prog Try.f4 false true false false) := by
  refine returnsInHanded_of_change_sized (C := Try.checked) own started (by kernel_rfl) Try.func4
    (ChangeSpec.witness6 (enc := enc) (C := Try.checked) false ⟨#[], #[.slice none 0 0, .string ByteArray.empty, .string ByteArray.empty], []⟩ 8 (by kernel_rfl) (by kernel_rfl) (by kernel_rfl) (by kernel_rfl)) ?_
  intro W base args ds gs before hval0 hW _ hsz0 _
  have hsz : (DataW.weightsEach Try.prog (Try.f4.params.toList ++ Rows.quoteGetSpec.plain.varTypes Try.prog) (ds ++ gs)).all (· ≤ reachBytes) = true := hsz0
  have hval : ∀ (j : Nat) t v, Try.f4.params[j]? = some t → args[j]? = some v → Value.okWide Try.prog W .any base t v := hval0
  have hW' := hW
  obtain ⟨p, q, hA0, hV, rfl, hfz, hnd⟩ := hW
  have hA : DataW.TrodAll enc Try.prog W 0 (fun _ => true) true Try.f4.params.toList args.toList ds p := hA0
  rw [Try.params4] at hA hval hsz
  obtain ⟨v0, vs0, d0, ds0, p0, q0, hargs, rfl, rfl, h0, r0⟩ := trodAll_cons hA
  obtain ⟨v1, vs1, d1, ds1, p1, q1, rfl, rfl, rfl, h1, r1⟩ := trodAll_cons r0
  obtain ⟨v2, vs2, d2, ds2, p2, q2, rfl, rfl, rfl, h2, r2⟩ := trodAll_cons r1
  obtain ⟨rfl, rfl, rfl⟩ := trodAll_nil r2
  obtain rfl : args = #[v0, v1, v2] := by cases args; simp_all
  obtain ⟨rfl, rfl⟩ := trodVars_none hV
  obtain ⟨a0, len0, cap0, rfl⟩ := okWide_slice Try.underlying23 (hval 0 23 v0 rfl rfl)
  have k0 := h0
  have lt0 : ∀ x ∈ p0, x.block < W.heap.size := by obtain ⟨m, hm⟩ := k0; exact DataW.trod_lt m _ _ _ hm
  obtain ⟨l0, rfl, hr0, hc0, wf0, y0⟩ := Open.slice_arg (d := Px.k35) Try.underlying23 (Open.struct Try.underlying35 (by kernel_rfl) (Open.field_more rfl (Open.string Try.underlying9 (by kernel_rfl)) (Open.field_last rfl (Open.slice Try.underlying33 (Open.struct Try.underlying37 (by kernel_rfl) (Open.field_more rfl (Open.string Try.underlying9 (by kernel_rfl)) (Open.field_last rfl (Open.string Try.underlying9 (by kernel_rfl)))) (fun x : Px.S37 => (x.f0, x.f1)) (fun y => ⟨y.1, y.2⟩) (fun _ => rfl)) (by kernel_rfl)))) (fun x : Px.S35 => (x.f0, x.f1)) (fun y => ⟨y.1, y.2⟩) (fun _ => rfl)) h0 hsz (j := 0) (t := 23) rfl rfl
  obtain ⟨a1, rfl, rfl, rfl, y1⟩ := open_string Try.underlying9 (hval 1 9 v1 rfl rfl) h1
  have w1 : a1.size ≤ 140737488351232 := by
    have z := sized_string hsz (j := 1) (t := 9) rfl rfl
    rw [Array.length_toList] at z
    exact z
  obtain ⟨a2, rfl, rfl, rfl, y2⟩ := open_string Try.underlying9 (hval 2 9 v2 rfl rfl) h2
  have w2 : a2.size ≤ 140737488351232 := by
    have z := sized_string hsz (j := 2) (t := 9) rfl rfl
    rw [Array.length_toList] at z
    exact z
  clear hA0 hval0 hsz0 hsz
  obtain ⟨k, hk⟩ := Pure.QuoteGet l0 a1 a2 wf0 y0 w1 w2
  refine (Px.gonglaw10_QuoteGet.calls k _ _ l0 a1 a2 true W hr0 hc0 hk).mono fun e W' ⟨he, hd⟩ => ?_
  subst he
  have bel : Below W.heap.size W W' := hd
  exact ⟨_, rfl, _, _, _, [], _, [], hW', trodAll_mk1 (shut_bool Try.underlying4 _), (trodAll_cons_mk (Below.trod laidOut (by kernel_rfl) (of_decide_eq_true (by kernel_rfl)) k0 bel lt0) (trodAll_cons_mk (shut_string Try.underlying9 y1) (trodAll_cons_mk (shut_string Try.underlying9 y2) trodAll_mk0))), rfl, bel.frame _, fun h => by cases h⟩
theorem over : Rows.quoteGetRow.holds Try.pinned (OpenSpec.ofChange Rows.quoteGetSpec) :=
  OpenClaim.holds_of_wide 4 Try.f4 rfl rfl rfl rfl rfl rfl rfl ⟨rfl, rfl, rfl, rfl, rfl⟩ rfl rfl rfl rfl rfl (by kernel_rfl) Try.func4 (by kernel_rfl)
    (of_decide_eq_true (by kernel_rfl)) (by unfold Func.isWrapper; first | (rw [if_pos (by decide +kernel)]; kernel_rfl) | (rw [if_neg (by decide +kernel)]; exact ⟨rfl, rfl⟩))
    (fun os started H enc _ => lifted os started H enc)
theorem proved : Rows.QuoteGetSaid := over
#print axioms proved
end Go.Proofs.Ytgopphglkjdcaaa.quoteGet
namespace Go.Proofs.Ytgopphglkjdcaaa
/-- The row, under a short name, for the claim. -/
theorem quoteGet_holds : Rows.QuoteGetSaid := quoteGet.proved
end Go.Proofs.Ytgopphglkjdcaaa
end
