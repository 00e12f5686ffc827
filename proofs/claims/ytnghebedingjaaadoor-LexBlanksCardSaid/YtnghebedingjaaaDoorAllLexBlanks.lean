import Derived.Test.YtnghebedingjaaaDoorStr
import Derived.Test.YtnghebedingjaaaDoorPx1
import Derived.Test.YtnghebedingjaaaDoorPx2
import Derived.Test.YtnghebedingjaaaDoorPx3
import Derived.Test.YtnghebedingjaaaDoorPx4
import Derived.Test.YtnghebedingjaaaDoorPx5
import Derived.Test.YtnghebedingjaaaDoorPx6
import Derived.Test.YtnghebedingjaaaDoorPx8
import Derived.Test.YtnghebedingjaaaDoorPx9
import Derived.Test.YtnghebedingjaaaDoorPx7
import Derived.Test.YtnghebedingjaaaDoorPx18
import Derived.Test.YtnghebedingjaaaDoorPx28
import Derived.Test.YtnghebedingjaaaDoorPx27
import Derived.Lib.Hide
import Derived.DataReads
import Derived.DataElems
import Derived.SizedLaws
import Derived.Lib.LaidTab
import Derived.ChangeShapes
import Derived.ChangeMaps
import Derived.Test.YtnghebedingjaaaDoorWWords
import Derived.Test.YtnghebedingjaaaDoorRows
import Derived.WalkKit
import Derived.ProofKit
import Derived.OpenShut
import Derived.ShutString
import Derived.ChangeOld
import Derived.Below
import Derived.Lay
import Derived.MakeChecks
import Derived.LaidMore
import Derived.Stop.Joined
import Derived.SevenTiedAt
import Derived.Test.YtnghebedingjaaaDoorTie
import Derived.Test.YtnghebedingjaaaDoorCards
set_option linter.unusedVariables false
set_option linter.unusedSimpArgs false
/-! Lx -/
section
/- A file of rules, over lists of bytes: bytes of tokens, texts in quotes, one token, blanks and remarks, all tokens, and how they are printed. -/
namespace Go.Proofs.YtnghebedingjaaaDoor.Lx
open Go
def letter (b : UInt8) : Bool := decide ((97 ≤ b.toNat ∧ b.toNat ≤ 122) ∨ (65 ≤ b.toNat ∧ b.toNat ≤ 90))
def digit (b : UInt8) : Bool := decide (48 ≤ b.toNat ∧ b.toNat ≤ 57)
def extra (k : Int) (b : UInt8) : Bool := if k = 1 then decide (b.toNat = 95 ∨ b.toNat = 45) else if k = 2 then decide (b.toNat = 46) else decide (b.toNat = 46 ∨ b.toNat = 95 ∨ b.toNat = 45 ∨ b.toNat = 35 ∨ b.toNat = 64)
def goes (k : Int) (b : UInt8) : Bool := letter b || digit b || extra k b
def sign (b : UInt8) : Bool := decide (b.toNat = 123 ∨ b.toNat = 125 ∨ b.toNat = 40 ∨ b.toNat = 41 ∨ b.toNat = 59 ∨ b.toNat = 61 ∨ b.toNat = 43 ∨ b.toNat = 44)
def blank (b : UInt8) : Bool := decide (b.toNat = 9 ∨ b.toNat = 10 ∨ b.toNat = 13 ∨ b.toNat = 32)
def nib (b : UInt8) : Int := if digit b then (b.toNat : Int) - 48 else if 97 ≤ b.toNat ∧ b.toNat ≤ 102 then (b.toNat : Int) - 87 else if 65 ≤ b.toNat ∧ b.toNat ≤ 70 then (b.toNat : Int) - 55 else -1
def esc : List UInt8 → Option (UInt8 × Nat)
  | [] => none
  | a :: l =>
    if a.toNat = 34 ∨ a.toNat = 92 then some (a, 1) else if a.toNat = 110 then some (10, 1) else if a.toNat = 116 then some (9, 1)
    else if a.toNat = 120 then (match l with
      | b :: c :: _ => if 0 ≤ nib b ∧ 0 ≤ nib c then some (UInt8.ofNat (nib b * 16 + nib c).toNat, 3) else none
      | _ => none)
    else none
theorem esc_pos {l : List UInt8} {c : UInt8} {n : Nat} (h : esc l = some (c, n)) : 1 ≤ n ∧ n ≤ l.length ∧ n ≤ 3 := by
  cases l with
  | nil => cases h
  | cons a l =>
    simp only [esc] at h
    split at h
    · cases h; simp
    · split at h
      · cases h; simp
      · split at h
        · cases h; simp
        · split at h
          · match l, h with
            | b :: c :: l, h =>
              simp only at h
              split at h
              · cases h; simp
              · cases h
          · cases h
/-- What stands behind a ", up to the closing one: the text, and what stands behind. -/
def txt : List UInt8 → Option (List UInt8 × List UInt8)
  | [] => none
  | a :: l =>
    if a.toNat = 34 then some ([], l) else if a.toNat < 32 then none
    else if a.toNat = 92 then (match h : esc l with
      | none => none
      | some (c, n) => (txt (l.drop n)).map fun x => (c :: x.1, x.2))
    else (txt l).map fun x => (a :: x.1, x.2)
termination_by l => l.length
decreasing_by
  · rw [List.length_drop, List.length_cons]; omega
  · simp
theorem txt_nil : txt [] = none := by rw [txt]
theorem txt_end {a : UInt8} (h : a.toNat = 34) (l : List UInt8) : txt (a :: l) = some ([], l) := by rw [txt, if_pos h]
theorem txt_low {a : UInt8} (h : a.toNat < 32) (l : List UInt8) : txt (a :: l) = none := by rw [txt, if_neg (by omega), if_pos h]
theorem txt_bad {a : UInt8} (h : a.toNat = 92) {l : List UInt8} (he : esc l = none) : txt (a :: l) = none := by
  rw [txt, if_neg (by omega), if_neg (by omega), if_pos h]
  split
  · rfl
  · rename_i h'; rw [he] at h'; cases h'
theorem txt_esc {a : UInt8} (h : a.toNat = 92) {l : List UInt8} {c : UInt8} {n : Nat} (he : esc l = some (c, n)) : txt (a :: l) = (txt (l.drop n)).map fun x => (c :: x.1, x.2) := by
  rw [txt, if_neg (by omega), if_neg (by omega), if_pos h]
  split
  · rename_i h'; rw [he] at h'; cases h'
  · rename_i h'; rw [he] at h'; cases h'; rfl
theorem txt_one {a : UInt8} (h1 : a.toNat ≠ 34) (h2 : 32 ≤ a.toNat) (h3 : a.toNat ≠ 92) (l : List UInt8) : txt (a :: l) = (txt l).map fun x => (a :: x.1, x.2) := by
  rw [txt, if_neg h1, if_neg (by omega), if_neg h3]
theorem txt_le (n : Nat) : ∀ {l t r : List UInt8}, l.length ≤ n → txt l = some (t, r) → r.length < l.length ∧ t.length + r.length < l.length ∧ r = l.drop (l.length - r.length) := by
  induction n with
  | zero =>
    intro l t r hl h
    obtain rfl : l = [] := List.length_eq_zero_iff.mp (by omega)
    rw [txt_nil] at h; cases h
  | succ n ih =>
    intro l t r hl h
    cases l with
    | nil => rw [txt_nil] at h; cases h
    | cons a l =>
      rw [List.length_cons] at hl ⊢
      by_cases h1 : a.toNat = 34
      · rw [txt_end h1] at h
        cases h
        refine ⟨by omega, by simp, ?_⟩
        rw [show r.length + 1 - r.length = 1 by omega]; rfl
      · by_cases h2 : a.toNat < 32
        · rw [txt_low h2] at h; cases h
        · by_cases h3 : a.toNat = 92
          · cases he : esc l with
            | none => rw [txt_bad h3 he] at h; cases h
            | some x =>
              obtain ⟨c, m⟩ := x
              have hm := esc_pos he
              rw [txt_esc h3 he] at h
              cases ht : txt (l.drop m) with
              | none => rw [ht] at h; cases h
              | some y =>
                obtain ⟨t', r'⟩ := y
                rw [ht] at h
                cases h
                have hd : (l.drop m).length = l.length - m := List.length_drop
                obtain ⟨i1, i2, i3⟩ := ih (by omega) ht
                simp only at i1 i2 i3 ⊢
                refine ⟨by omega, by simp only [List.length_cons]; omega, ?_⟩
                rw [i3]
                simp only [List.length_drop, List.drop_drop]
                rw [show l.length + 1 - (l.length - (m + (l.length - m - r'.length))) = (m + (l.length - m - r'.length)) + 1 by omega, List.drop_succ_cons]
          · rw [txt_one h1 (by omega) h3] at h
            cases ht : txt l with
            | none => rw [ht] at h; cases h
            | some y =>
              obtain ⟨t', r'⟩ := y
              rw [ht] at h
              cases h
              obtain ⟨i1, i2, i3⟩ := ih (by omega) ht
              simp only at i1 i2 i3 ⊢
              refine ⟨by omega, by simp only [List.length_cons]; omega, ?_⟩
              rw [show l.length + 1 - r'.length = (l.length - r'.length) + 1 by omega, List.drop_succ_cons]
              exact i3
theorem esc_app {l : List UInt8} {x : UInt8 × Nat} (h : esc l = some x) (r : List UInt8) : esc (l ++ r) = some x := by
  cases l with
  | nil => cases h
  | cons a l =>
    rw [List.cons_append]
    simp only [esc] at h ⊢
    split
    · rw [if_pos ‹_›] at h; exact h
    · rw [if_neg ‹_›] at h
      split
      · rw [if_pos ‹_›] at h; exact h
      · rw [if_neg ‹_›] at h
        split
        · rw [if_pos ‹_›] at h; exact h
        · rw [if_neg ‹_›] at h
          split
          · rw [if_pos ‹_›] at h
            match l, h with
            | b :: c :: l, h => exact h
          · rw [if_neg ‹_›] at h; cases h
theorem txt_app (n : Nat) : ∀ {l t r : List UInt8} (x : List UInt8), l.length ≤ n → txt l = some (t, r) → txt (l ++ x) = some (t, r ++ x) := by
  induction n with
  | zero =>
    intro l t r x hl h
    obtain rfl : l = [] := List.length_eq_zero_iff.mp (by omega)
    rw [txt_nil] at h; cases h
  | succ n ih =>
    intro l t r x hl h
    cases l with
    | nil => rw [txt_nil] at h; cases h
    | cons a l =>
      rw [List.length_cons] at hl
      rw [List.cons_append]
      by_cases h1 : a.toNat = 34
      · rw [txt_end h1] at h ⊢
        cases h; rfl
      · by_cases h2 : a.toNat < 32
        · rw [txt_low h2] at h; cases h
        · by_cases h3 : a.toNat = 92
          · cases he : esc l with
            | none => rw [txt_bad h3 he] at h; cases h
            | some y =>
              obtain ⟨c, m⟩ := y
              have hm := esc_pos he
              rw [txt_esc h3 he] at h
              rw [txt_esc h3 (esc_app he x), List.drop_append_of_le_length (by omega)]
              cases ht : txt (l.drop m) with
              | none => rw [ht] at h; cases h
              | some y =>
                obtain ⟨t', r'⟩ := y
                rw [ht] at h
                cases h
                rw [ih x (by rw [List.length_drop]; omega) ht]; rfl
          · rw [txt_one h1 (by omega) h3] at h ⊢
            cases ht : txt l with
            | none => rw [ht] at h; cases h
            | some y =>
              obtain ⟨t', r'⟩ := y
              rw [ht] at h
              cases h
              rw [ih x (by omega) ht]; rfl
/-- In quotes. -/
def dg (n : Nat) : UInt8 := if n < 10 then UInt8.ofNat (48 + n) else UInt8.ofNat (87 + n)
def qone (y : UInt8) : List UInt8 :=
  if y.toNat = 34 ∨ y.toNat = 92 then [92, y] else if y.toNat = 10 then [92, 110] else if y.toNat = 9 then [92, 116]
  else if y.toNat < 32 ∨ 127 ≤ y.toNat then [92, 120, dg (y.toNat / 16), dg (y.toNat % 16)] else [y]
def quote (l : List UInt8) : List UInt8 := 34 :: (l.flatMap qone ++ [34])
theorem nib_dg : ∀ n : Fin 16, nib (dg n.val) = (n.val : Int) := by decide
theorem qone_length (y : UInt8) : 1 ≤ (qone y).length ∧ (qone y).length ≤ 4 := by
  unfold qone
  repeat' split
  all_goals simp
theorem flat_length (l : List UInt8) : l.length ≤ (l.flatMap qone).length ∧ (l.flatMap qone).length ≤ 4 * l.length := by
  induction l with
  | nil => simp
  | cons a l ih => rw [List.flatMap_cons, List.length_append, List.length_cons]; have := qone_length a; omega
theorem quote_length (l : List UInt8) : (quote l).length = (l.flatMap qone).length + 2 := by simp [quote]
theorem txt_qone (y : UInt8) (r : List UInt8) : txt (qone y ++ r) = (txt r).map fun x => (y :: x.1, x.2) := by
  have hy := y.toNat_lt
  unfold qone
  have b92 : (92 : UInt8).toNat = 92 := rfl
  split
  · rw [List.cons_append, txt_esc b92 (c := y) (n := 1) (by simp only [List.cons_append, esc]; rw [if_pos ‹_›])]
    rfl
  · split
    · have e : esc ([110] ++ r) = some (10, 1) := by simp [esc]
      rw [List.cons_append, txt_esc b92 e, show y = 10 from UInt8.toNat_inj.1 (by assumption)]
      rfl
    · split
      · have e : esc ([116] ++ r) = some (9, 1) := by simp [esc]
        rw [List.cons_append, txt_esc b92 e, show y = 9 from UInt8.toNat_inj.1 (by assumption)]
        rfl
      · split
        · have n1 := nib_dg ⟨y.toNat / 16, by omega⟩
          have n2 := nib_dg ⟨y.toNat % 16, by omega⟩
          simp only at n1 n2
          have e : esc ([120, dg (y.toNat / 16), dg (y.toNat % 16)] ++ r) = some (y, 3) := by
            simp only [List.cons_append, List.nil_append, esc]
            rw [if_neg (by decide), if_neg (by decide), if_neg (by decide), if_pos (by decide), n1, n2, if_pos (by omega)]
            congr 2
            apply UInt8.toNat_inj.1
            rw [UInt8.toNat_ofNat']
            omega
          rw [List.cons_append, txt_esc b92 e]
          rfl
        · rw [List.cons_append, List.nil_append, txt_one (by omega) (by omega) (by omega)]
theorem txt_quote (l r : List UInt8) : txt (l.flatMap qone ++ 34 :: r) = some (l, r) := by
  induction l with
  | nil => rw [List.flatMap_nil, List.nil_append, txt_end rfl]
  | cons a l ih => rw [List.flatMap_cons, List.append_assoc, txt_qone, ih]; rfl
/-- How many bytes go on. -/
def run (k : Int) : List UInt8 → Nat
  | [] => 0
  | a :: l => if goes k a then run k l + 1 else 0
theorem run_le (k : Int) (l : List UInt8) : run k l ≤ l.length := by
  induction l with
  | nil => simp [run]
  | cons a l ih => rw [run, List.length_cons]; split <;> omega
theorem run_all {k : Int} {l : List UInt8} (h : run k l = l.length) (b : UInt8) (hb : goes k b = false) (r : List UInt8) : run k (l ++ b :: r) = l.length := by
  induction l with
  | nil => rw [List.nil_append, run, if_neg (by simp [hb])]; rfl
  | cons a l ih =>
    rw [run, List.length_cons] at h
    rw [List.cons_append, run]
    split at h
    · rename_i hg
      rw [if_pos hg, ih (by omega), List.length_cons]
    · omega
theorem run_take (k : Int) (l : List UInt8) : run k (l.take (run k l)) = (l.take (run k l)).length := by
  induction l with
  | nil => simp [run]
  | cons a l ih =>
    rw [run]
    split
    · rename_i hg
      rw [List.take_succ_cons, run, if_pos hg, ih, List.length_cons]
    · simp [run]
/-- The token at the beginning: its kind, its text, how many bytes it has. -/
def tok : List UInt8 → Option (Int × List UInt8 × Nat)
  | [] => none
  | a :: l =>
    if sign a then some (5, [a], 1)
    else if letter a then some (1, (a :: l).take (run 1 (a :: l)), run 1 (a :: l))
    else if digit a then some (2, (a :: l).take (run 2 (a :: l)), run 2 (a :: l))
    else if a.toNat = 36 then (if run 3 l = 0 then none else some (3, l.take (run 3 l), 1 + run 3 l))
    else if a.toNat = 34 then (match txt l with
      | none => none
      | some (t, r) => some (4, t, 1 + (l.length - r.length)))
    else none
theorem run_letter {a : UInt8} (h : letter a = true) (k : Int) (l : List UInt8) : run k (a :: l) = run k l + 1 := by rw [run, if_pos (by simp [goes, h])]
theorem run_digit {a : UInt8} (h : digit a = true) (k : Int) (l : List UInt8) : run k (a :: l) = run k l + 1 := by rw [run, if_pos (by simp [goes, h])]
theorem tok_le {l t : List UInt8} {k : Int} {n : Nat} (h : tok l = some (k, t, n)) : 1 ≤ n ∧ n ≤ l.length ∧ t.length ≤ n ∧ 1 ≤ k ∧ k ≤ 5 := by
  cases l with
  | nil => cases h
  | cons a l =>
    rw [List.length_cons]
    simp only [tok] at h
    split at h
    · cases h; simp
    · split at h
      · cases h
        have h1 := run_letter ‹_› 1 l
        have h2 := run_le 1 l
        rw [List.length_take, List.length_cons]; omega
      · split at h
        · cases h
          have h1 := run_digit ‹_› 2 l
          have h2 := run_le 2 l
          rw [List.length_take, List.length_cons]; omega
        · split at h
          · split at h
            · cases h
            · cases h
              have h2 := run_le 3 l
              rw [List.length_take]; omega
          · split at h
            · cases ht : txt l with
              | none => rw [ht] at h; cases h
              | some x =>
                obtain ⟨t', r⟩ := x
                rw [ht] at h
                cases h
                have := txt_le l.length (Nat.le_refl _) ht
                omega
            · cases h
/-- How a token stands in a file. -/
def stands (k : Int) (t : List UInt8) : List UInt8 := if k = 3 then 36 :: t else if k = 4 then quote t else t
/-- Whether a token may be. -/
def may (k : Int) (t : List UInt8) : Bool :=
  if k = 1 then (match t with | [] => false | a :: _ => letter a && (run 1 t == t.length))
  else if k = 2 then (match t with | [] => false | a :: _ => digit a && (run 2 t == t.length))
  else if k = 3 then (t != []) && (run 3 t == t.length)
  else if k = 4 then true
  else if k = 5 then (match t with | [a] => sign a | _ => false)
  else false
theorem letter_sign (a : UInt8) (h : letter a = true) : sign a = false := by
  unfold letter at h; unfold sign
  simp only [decide_eq_true_eq, decide_eq_false_iff_not] at h ⊢
  omega
theorem digit_letter (a : UInt8) (h : digit a = true) : letter a = false ∧ sign a = false := by
  unfold digit at h; unfold sign letter
  simp only [decide_eq_true_eq, decide_eq_false_iff_not] at h ⊢
  omega
theorem tok_field (l : List UInt8) : tok (36 :: l) = if run 3 l = 0 then none else some (3, l.take (run 3 l), 1 + run 3 l) := by
  simp only [tok]
  rw [if_neg (by decide), if_neg (by decide), if_neg (by decide), if_pos (by decide)]
theorem tok_text (l : List UInt8) : tok (34 :: l) = match txt l with | none => none | some (t, r) => some (4, t, 1 + (l.length - r.length)) := by
  simp only [tok]
  rw [if_neg (by decide), if_neg (by decide), if_neg (by decide), if_neg (by decide), if_pos (by decide)]
theorem tok_letter {a : UInt8} (h : letter a = true) (l : List UInt8) : tok (a :: l) = some (1, (a :: l).take (run 1 (a :: l)), run 1 (a :: l)) := by
  simp only [tok]
  rw [if_neg (by rw [letter_sign a h]; decide), if_pos h]
theorem tok_digit {a : UInt8} (h : digit a = true) (l : List UInt8) : tok (a :: l) = some (2, (a :: l).take (run 2 (a :: l)), run 2 (a :: l)) := by
  simp only [tok]
  rw [if_neg (by rw [(digit_letter a h).2]; decide), if_neg (by rw [(digit_letter a h).1]; decide), if_pos h]
theorem tok_sign {a : UInt8} (h : sign a = true) (l : List UInt8) : tok (a :: l) = some (5, [a], 1) := by simp only [tok]; rw [if_pos h]
theorem tok_quote (t r : List UInt8) : tok (quote t ++ r) = some (4, t, (quote t).length) := by
  have e : quote t ++ r = 34 :: (t.flatMap qone ++ 34 :: r) := by simp [quote]
  rw [e, tok_text, txt_quote]
  simp only [Option.some.injEq, Prod.mk.injEq, true_and, quote_length, List.length_append, List.length_cons]
  omega
/-- A token that may be is told of how it stands, with anything behind that does not go on. -/
theorem tok_stands {k : Int} {t : List UInt8} (h : may k t = true) (b : UInt8) (hb : blank b = true) (r : List UInt8) : tok (stands k t ++ b :: r) = some (k, t, (stands k t).length) := by
  have hg : ∀ k, goes k b = false := by
    intro k
    unfold blank at hb
    simp only [decide_eq_true_eq] at hb
    unfold goes letter digit extra
    simp only [Bool.or_eq_false_iff, decide_eq_false_iff_not]
    refine ⟨⟨by omega, by omega⟩, ?_⟩
    repeat' split
    all_goals (rw [decide_eq_false_iff_not]; omega)
  unfold may at h
  unfold stands
  by_cases h1 : k = 1
  · subst h1
    rw [if_pos rfl] at h
    rw [if_neg (by decide), if_neg (by decide)]
    cases t with
    | nil => cases h
    | cons a t =>
      simp only [Bool.and_eq_true, beq_iff_eq] at h
      have hr := run_all h.2 b (hg 1) r
      rw [List.cons_append] at hr ⊢
      rw [tok_letter h.1, hr, ← List.cons_append, List.take_left]
  rw [if_neg h1] at h
  by_cases h2 : k = 2
  · subst h2
    rw [if_pos rfl] at h
    rw [if_neg (by decide), if_neg (by decide)]
    cases t with
    | nil => cases h
    | cons a t =>
      simp only [Bool.and_eq_true, beq_iff_eq] at h
      have hr := run_all h.2 b (hg 2) r
      rw [List.cons_append] at hr ⊢
      rw [tok_digit h.1, hr, ← List.cons_append, List.take_left]
  rw [if_neg h2] at h
  by_cases h3 : k = 3
  · subst h3
    rw [if_pos rfl] at h ⊢
    simp only [Bool.and_eq_true, beq_iff_eq, bne_iff_ne] at h
    have hr := run_all h.2 b (hg 3) r
    have hl : t.length ≠ 0 := fun z => h.1 (List.length_eq_zero_iff.mp z)
    rw [List.cons_append, tok_field, hr, if_neg hl, List.take_left, List.length_cons, Nat.add_comm]
  rw [if_neg h3] at h ⊢
  by_cases h4 : k = 4
  · subst h4
    rw [if_pos rfl]
    exact tok_quote t _
  rw [if_neg h4] at h ⊢
  by_cases h5 : k = 5
  · subst h5
    rw [if_pos rfl] at h
    match t, h with
    | [a], h => exact tok_sign h _
  rw [if_neg h5] at h
  cases h
/-- The token at the beginning may be. -/
theorem tok_may {l t : List UInt8} {k : Int} {n : Nat} (h : tok l = some (k, t, n)) : may k t = true := by
  cases l with
  | nil => cases h
  | cons a l =>
    simp only [tok] at h
    split at h
    · cases h; simp [may, ‹sign a = true›]
    · split at h
      · cases h
        have hl : letter a = true := ‹_›
        have h2 := run_take 1 (a :: l)
        rw [run_letter hl, List.take_succ_cons] at h2 ⊢
        simp [may, hl, h2]
      · split at h
        · cases h
          have hl : digit a = true := ‹_›
          have h2 := run_take 2 (a :: l)
          rw [run_digit hl, List.take_succ_cons] at h2 ⊢
          simp [may, hl, h2]
        · split at h
          · split at h
            · cases h
            · cases h
              have h2 := run_take 3 l
              have h3 := run_le 3 l
              have h4 : l.take (run 3 l) ≠ [] := by
                intro z
                have := congrArg List.length z
                rw [List.length_take] at this
                simp only [List.length_nil] at this
                omega
              unfold may
              rw [if_neg (by decide), if_neg (by decide), if_pos rfl, Bool.and_eq_true]
              exact ⟨bne_iff_ne.mpr h4, beq_iff_eq.mpr h2⟩
          · split at h
            · cases ht : txt l with
              | none => rw [ht] at h; cases h
              | some x => rw [ht] at h; cases h; rfl
            · cases h
/-- As the program asks it: how it stands is told as itself, and nothing is left. -/
theorem may_iff (k : Int) (t : List UInt8) : may k t = true ↔ tok (stands k t) = some (k, t, (stands k t).length) := by
  constructor
  · intro h
    unfold may at h
    unfold stands
    by_cases h1 : k = 1
    · subst h1
      rw [if_pos rfl] at h
      rw [if_neg (by decide), if_neg (by decide)]
      cases t with
      | nil => cases h
      | cons a t =>
        simp only [Bool.and_eq_true, beq_iff_eq] at h
        rw [tok_letter h.1, h.2, List.take_length]
    rw [if_neg h1] at h
    by_cases h2 : k = 2
    · subst h2
      rw [if_pos rfl] at h
      rw [if_neg (by decide), if_neg (by decide)]
      cases t with
      | nil => cases h
      | cons a t =>
        simp only [Bool.and_eq_true, beq_iff_eq] at h
        rw [tok_digit h.1, h.2, List.take_length]
    rw [if_neg h2] at h
    by_cases h3 : k = 3
    · subst h3
      rw [if_pos rfl] at h ⊢
      simp only [Bool.and_eq_true, beq_iff_eq, bne_iff_ne] at h
      have hl : t.length ≠ 0 := fun z => h.1 (List.length_eq_zero_iff.mp z)
      rw [tok_field, h.2, if_neg hl, List.take_length, List.length_cons, Nat.add_comm]
    rw [if_neg h3] at h ⊢
    by_cases h4 : k = 4
    · subst h4
      rw [if_pos rfl]
      have := tok_quote t []
      rw [List.append_nil] at this
      exact this
    rw [if_neg h4] at h ⊢
    by_cases h5 : k = 5
    · subst h5
      rw [if_pos rfl] at h
      match t, h with
      | [a], h => exact tok_sign h _
    rw [if_neg h5] at h
    cases h
  · exact tok_may
theorem stands_ne {k : Int} {t : List UInt8} (h : may k t = true) : stands k t ≠ [] := by
  intro z
  have := (may_iff k t).1 h
  rw [z] at this
  cases this
/-- What begins with a blank, or a remark, has no token at its beginning. -/
theorem tok_blank {a : UInt8} (h : blank a = true ∨ a.toNat = 35) (l : List UInt8) : tok (a :: l) = none := by
  have hn : a.toNat = 9 ∨ a.toNat = 10 ∨ a.toNat = 13 ∨ a.toNat = 32 ∨ a.toNat = 35 := by
    unfold blank at h
    simp only [decide_eq_true_eq] at h
    omega
  simp only [tok]
  rw [if_neg (by unfold sign; simp only [decide_eq_true_eq]; omega), if_neg (by unfold letter; simp only [decide_eq_true_eq]; omega), if_neg (by unfold digit; simp only [decide_eq_true_eq]; omega), if_neg (by omega), if_neg (by omega)]
/-- Blanks and remarks at the beginning: what stands behind, and the line there. -/
def skip : Bool → List UInt8 → Int → List UInt8 × Int
  | _, [], ln => ([], ln)
  | rm, b :: l, ln => if rm || decide (b.toNat = 35) || blank b then skip (if b.toNat = 10 then false else if b.toNat = 35 then true else rm) l (if b.toNat = 10 then ln + 1 else ln) else (b :: l, ln)
def cnt (l : List UInt8) : Nat := l.countP fun b => b.toNat = 10
theorem skip_le (l : List UInt8) : ∀ (rm : Bool) (ln : Int), (skip rm l ln).1.length ≤ l.length ∧ (skip rm l ln).1 = l.drop (l.length - (skip rm l ln).1.length) ∧ (skip rm l ln).2 = ln + cnt (l.take (l.length - (skip rm l ln).1.length)) := by
  induction l with
  | nil => intro rm ln; simp [skip, cnt]
  | cons b l ih =>
    intro rm ln
    rw [skip]
    split
    · obtain ⟨i1, i2, i3⟩ := ih (if b.toNat = 10 then false else if b.toNat = 35 then true else rm) (if b.toNat = 10 then ln + 1 else ln)
      generalize skip (if b.toNat = 10 then false else if b.toNat = 35 then true else rm) l (if b.toNat = 10 then ln + 1 else ln) = p at i1 i2 i3
      rw [List.length_cons, show l.length + 1 - p.1.length = (l.length - p.1.length) + 1 by omega, List.drop_succ_cons, List.take_succ_cons]
      refine ⟨by omega, i2, ?_⟩
      rw [i3]
      unfold cnt
      rw [List.countP_cons]
      by_cases hb : b.toNat = 10
      · rw [if_pos hb]; simp [hb]; omega
      · rw [if_neg hb]; simp [hb]
    · simp [cnt]
theorem cnt_app (a b : List UInt8) : cnt (a ++ b) = cnt a + cnt b := List.countP_append
theorem skip_cnt (rm : Bool) (l : List UInt8) (ln : Int) : (skip rm l ln).2 + cnt (skip rm l ln).1 = ln + cnt l := by
  obtain ⟨_, h2, h3⟩ := skip_le l rm ln
  generalize skip rm l ln = p at *
  rw [h3]
  conv => lhs; arg 2; rw [h2]
  conv => rhs; rw [← List.take_append_drop (l.length - p.1.length) l, cnt_app]
  push_cast
  omega
theorem skip_mono (rm : Bool) (l : List UInt8) (ln : Int) : ln ≤ (skip rm l ln).2 := by
  obtain ⟨_, _, h3⟩ := skip_le l rm ln
  rw [h3]; omega
/-- A token, and the line where it stands. -/
abbrev T := Int × List UInt8 × Int
/-- All tokens, at most so many; and the line where it is wrong, and why. -/
def spl (c : Nat) (l : List UInt8) (ln : Int) : List T × Option (Int × Int) :=
  if (skip false l ln).1 = [] then ([], none) else
  match h : tok (skip false l ln).1 with
  | none => ([], some ((skip false l ln).2, 140))
  | some (k, t, n) => match c with
    | 0 => ([], some ((skip false l ln).2, 2))
    | c + 1 => let x := spl c ((skip false l ln).1.drop n) (skip false l ln).2; ((k, t, (skip false l ln).2) :: x.1, x.2)
/-- Tokens as a file. -/
def behind (k : Int) (t : List UInt8) : UInt8 := if k = 5 ∧ (t = [59] ∨ t = [123] ∨ t = [125]) then 10 else 32
def prt : List (Int × List UInt8) → List UInt8
  | [] => []
  | (k, t) :: l => stands k t ++ behind k t :: prt l
theorem spl_end {l : List UInt8} {ln : Int} (h : (skip false l ln).1 = []) (c : Nat) : spl c l ln = ([], none) := by
  rw [spl.eq_def, if_pos h]
theorem spl_bad {l : List UInt8} {ln : Int} (h : (skip false l ln).1 ≠ []) (ht : tok (skip false l ln).1 = none) (c : Nat) : spl c l ln = ([], some ((skip false l ln).2, 140)) := by
  rw [spl.eq_def, if_neg h]
  split
  · rfl
  · rename_i h'; rw [ht] at h'; cases h'
theorem spl_full {l : List UInt8} {ln : Int} {k : Int} {t : List UInt8} {n : Nat} (ht : tok (skip false l ln).1 = some (k, t, n)) : spl 0 l ln = ([], some ((skip false l ln).2, 2)) := by
  rw [spl.eq_def, if_neg (by intro z; rw [z] at ht; cases ht)]
  split
  · rename_i h'; rw [ht] at h'; cases h'
  · rfl
theorem spl_more {l : List UInt8} {ln : Int} {k : Int} {t : List UInt8} {n : Nat} (ht : tok (skip false l ln).1 = some (k, t, n)) (c : Nat) :
    spl (c + 1) l ln = ((k, t, (skip false l ln).2) :: (spl c ((skip false l ln).1.drop n) (skip false l ln).2).1, (spl c ((skip false l ln).1.drop n) (skip false l ln).2).2) := by
  rw [spl.eq_def, if_neg (by intro z; rw [z] at ht; cases ht)]
  split
  · rename_i h'; rw [ht] at h'; cases h'
  · rename_i h'; rw [ht] at h'; cases h'; rfl
end Go.Proofs.YtnghebedingjaaaDoor.Lx
end
/-! LxB -/
section
/- Tokens printed and split again; blanks and remarks between tokens. -/
namespace Go.Proofs.YtnghebedingjaaaDoor.Lx
open Go
theorem skip_tok {l : List UInt8} (h : tok l ≠ none) (ln : Int) : skip false l ln = (l, ln) := by
  cases l with
  | nil => rfl
  | cons a l =>
    rw [skip, if_neg]
    intro z
    apply h
    apply tok_blank
    simp only [Bool.false_or, Bool.or_eq_true, decide_eq_true_eq] at z
    rcases z with z | z
    · exact .inr z
    · exact .inl z
theorem skip_blank {b : UInt8} (h : blank b = true) (l : List UInt8) (ln : Int) : skip false (b :: l) ln = skip false l (if b.toNat = 10 then ln + 1 else ln) := by
  have hn : b.toNat ≠ 35 := by
    unfold blank at h
    simp only [decide_eq_true_eq] at h
    omega
  rw [skip, if_pos (by simp [h])]
  congr 1
  by_cases hb : b.toNat = 10
  · rw [if_pos hb]
  · rw [if_neg hb, if_neg hn]
/-- Bytes that are passed over, whatever stands behind. -/
def skips (x : List UInt8) : Prop := ∀ (r : List UInt8) (ln : Int), skip false (x ++ r) ln = skip false r (ln + cnt x)
theorem spl_skips {x : List UInt8} (h : skips x) (c : Nat) (r : List UInt8) (ln : Int) : spl c (x ++ r) ln = spl c r (ln + cnt x) := by
  rw [spl.eq_def, spl.eq_def c r]
  rw [h r ln]
theorem skips_blank {b : UInt8} (h : blank b = true) : skips [b] := by
  intro r ln
  rw [List.cons_append, List.nil_append, skip_blank h]
  congr 1
  unfold cnt
  by_cases hb : b.toNat = 10
  · rw [if_pos hb]; simp [hb]
  · rw [if_neg hb]; simp [hb]
theorem skips_nil : skips [] := by
  intro r ln
  simp [cnt]
theorem spl_tok {l : List UInt8} {ln : Int} {k : Int} {t : List UInt8} {n : Nat} (ht : tok l = some (k, t, n)) (c : Nat) :
    spl (c + 1) l ln = ((k, t, ln) :: (spl c (l.drop n) ln).1, (spl c (l.drop n) ln).2) := by
  have hs := skip_tok (l := l) (by rw [ht]; simp) ln
  have := spl_more (l := l) (ln := ln) (k := k) (t := t) (n := n) (by rw [hs]; exact ht) c
  rw [hs] at this
  exact this
def bare (l : List T) : List (Int × List UInt8) := l.map fun x => (x.1, x.2.1)
theorem behind_blank (k : Int) (t : List UInt8) : blank (behind k t) = true := by
  unfold behind
  split <;> decide
theorem spl_nil (c : Nat) (ln : Int) : spl c [] ln = ([], none) := spl_end rfl c
theorem spl_prt (ts : List (Int × List UInt8)) (h : ∀ x ∈ ts, may x.1 x.2 = true) : ∀ (c : Nat) (ln : Int), ts.length ≤ c → bare (spl c (prt ts) ln).1 = ts ∧ (spl c (prt ts) ln).2 = none := by
  induction ts with
  | nil => intro c ln _; rw [prt, spl_nil]; exact ⟨rfl, rfl⟩
  | cons x ts ih =>
    obtain ⟨k, t⟩ := x
    intro c ln hc
    obtain ⟨c, rfl⟩ : ∃ m, c = m + 1 := ⟨c - 1, by simp at hc; omega⟩
    have hm := h (k, t) (by simp)
    have ht := tok_stands hm (behind k t) (behind_blank k t) (prt ts)
    rw [prt, spl_tok ht, List.drop_left]
    have e := spl_skips (skips_blank (behind_blank k t)) c (prt ts) ln
    rw [List.cons_append, List.nil_append] at e
    rw [e]
    obtain ⟨i1, i2⟩ := ih (fun x hx => h x (by simp [hx])) c (ln + cnt [behind k t]) (by simpa using hc)
    refine ⟨?_, i2⟩
    show (k, t) :: bare _ = _
    rw [i1]
theorem spl_may (c : Nat) : ∀ (l : List UInt8) (ln : Int), ∀ x ∈ (spl c l ln).1, may x.1 x.2.1 = true := by
  induction c with
  | zero =>
    intro l ln x hx
    by_cases h0 : (skip false l ln).1 = []
    · rw [spl_end h0] at hx; cases hx
    · cases ht : tok (skip false l ln).1 with
      | none => rw [spl_bad h0 ht] at hx; cases hx
      | some y => obtain ⟨k, t, n⟩ := y; rw [spl_full ht] at hx; cases hx
  | succ c ih =>
    intro l ln x hx
    by_cases h0 : (skip false l ln).1 = []
    · rw [spl_end h0] at hx; cases hx
    · cases ht : tok (skip false l ln).1 with
      | none => rw [spl_bad h0 ht] at hx; cases hx
      | some y =>
        obtain ⟨k, t, n⟩ := y
        rw [spl_more ht] at hx
        rw [List.mem_cons] at hx
        rcases hx with rfl | hx
        · exact tok_may ht
        · exact ih _ _ x hx
theorem cnt_drop (l : List UInt8) (n : Nat) : cnt (l.drop n) ≤ cnt l := by
  conv => rhs; rw [← List.take_append_drop n l, cnt_app]
  omega
/-- The line where it is wrong. -/
theorem spl_line (c : Nat) : ∀ (l : List UInt8) (ln x e : Int), (spl c l ln).2 = some (x, e) → ln ≤ x ∧ x ≤ ln + cnt l ∧ e ≠ 0 := by
  induction c with
  | zero =>
    intro l ln x e hx
    have h1 := skip_mono false l ln
    have h2 := skip_cnt false l ln
    by_cases h0 : (skip false l ln).1 = []
    · rw [spl_end h0] at hx; cases hx
    · cases ht : tok (skip false l ln).1 with
      | none => rw [spl_bad h0 ht] at hx; cases hx; exact ⟨h1, by omega, by decide⟩
      | some y => obtain ⟨k, t, n⟩ := y; rw [spl_full ht] at hx; cases hx; exact ⟨h1, by omega, by decide⟩
  | succ c ih =>
    intro l ln x e hx
    have h1 := skip_mono false l ln
    have h2 := skip_cnt false l ln
    by_cases h0 : (skip false l ln).1 = []
    · rw [spl_end h0] at hx; cases hx
    · cases ht : tok (skip false l ln).1 with
      | none => rw [spl_bad h0 ht] at hx; cases hx; exact ⟨h1, by omega, by decide⟩
      | some y =>
        obtain ⟨k, t, n⟩ := y
        rw [spl_more ht] at hx
        obtain ⟨i1, i2, i3⟩ := ih _ _ x e hx
        have h3 := cnt_drop (skip false l ln).1 n
        exact ⟨by omega, by omega, i3⟩
theorem spl_len (c : Nat) : ∀ (l : List UInt8) (ln : Int), (spl c l ln).1.length ≤ c ∧ (spl c l ln).1.length ≤ l.length := by
  induction c with
  | zero =>
    intro l ln
    by_cases h0 : (skip false l ln).1 = []
    · rw [spl_end h0]; simp
    · cases ht : tok (skip false l ln).1 with
      | none => rw [spl_bad h0 ht]; simp
      | some y => obtain ⟨k, t, n⟩ := y; rw [spl_full ht]; simp
  | succ c ih =>
    intro l ln
    by_cases h0 : (skip false l ln).1 = []
    · rw [spl_end h0]; simp
    · cases ht : tok (skip false l ln).1 with
      | none => rw [spl_bad h0 ht]; simp
      | some y =>
        obtain ⟨k, t, n⟩ := y
        rw [spl_more ht]
        have := ih ((skip false l ln).1.drop n) (skip false l ln).2
        have h1 := tok_le ht
        have h2 := (skip_le l false ln).1
        rw [List.length_drop] at this
        simp only [List.length_cons]
        omega
/-- How long what is printed is. -/
theorem prt_length (ts : List (Int × List UInt8)) (N : Nat) (h : ∀ x ∈ ts, x.2.length ≤ N) : (prt ts).length ≤ ts.length * (4 * N + 3) := by
  induction ts with
  | nil => simp [prt]
  | cons x ts ih =>
    obtain ⟨k, t⟩ := x
    have hx := h (k, t) (by simp)
    have := ih (fun x hx => h x (by simp [hx]))
    have hs : (stands k t).length ≤ 4 * t.length + 2 := by
      unfold stands
      have := flat_length t
      split
      · simp; omega
      · split
        · rw [quote_length]; omega
        · omega
    rw [prt, List.length_append, List.length_cons, List.length_cons, Nat.add_mul]
    simp only at hx
    omega
def sumN (ts : List (Int × List UInt8)) : Nat := (ts.map fun x => x.2.length).sum
theorem prt_sum (ts : List (Int × List UInt8)) : (prt ts).length ≤ 4 * sumN ts + 3 * ts.length := by
  induction ts with
  | nil => simp [prt]
  | cons x ts ih =>
    obtain ⟨k, t⟩ := x
    have hs : (stands k t).length ≤ 4 * t.length + 2 := by
      unfold stands
      have := flat_length t
      split
      · simp; omega
      · split
        · rw [quote_length]; omega
        · omega
    unfold sumN at ih ⊢
    rw [prt, List.length_append, List.length_cons, List.length_cons, List.map_cons, List.sum_cons]
    simp only
    omega
/-- Texts with signs between them, and blanks. -/
def gapped : List (List UInt8 × Nat) → (Nat → List UInt8) → List UInt8
  | [], _ => []
  | (w, n) :: ws, bl => quote w ++ bl n ++ [59] ++ bl n ++ gapped ws bl
def made : List (List UInt8 × Nat) → (Nat → List UInt8) → Int → List T
  | [], _, _ => []
  | (w, n) :: ws, bl, ln => (4, w, ln) :: (5, [59], ln + cnt (bl n)) :: made ws bl (ln + cnt (bl n) + cnt (bl n))
theorem spl_quote (w r : List UInt8) (c : Nat) (ln : Int) : spl (c + 1) (quote w ++ r) ln = ((4, w, ln) :: (spl c r ln).1, (spl c r ln).2) := by
  rw [spl_tok (tok_quote w r), List.drop_left]
theorem spl_semi (r : List UInt8) (c : Nat) (ln : Int) : spl (c + 1) (59 :: r) ln = ((5, [59], ln) :: (spl c r ln).1, (spl c r ln).2) := by
  rw [spl_tok (tok_sign (by decide) r)]
  rfl
theorem spl_gapped (bl : Nat → List UInt8) (hb : ∀ n, skips (bl n)) (ws : List (List UInt8 × Nat)) : ∀ (c : Nat) (ln : Int), 2 * ws.length ≤ c → spl c (gapped ws bl) ln = (made ws bl ln, none) := by
  induction ws with
  | nil => intro c ln _; rw [gapped, spl_nil]; rfl
  | cons x ws ih =>
    obtain ⟨w, n⟩ := x
    intro c ln hc
    obtain ⟨c, rfl⟩ : ∃ m, c = m + 1 + 1 := ⟨c - 2, by simp at hc; omega⟩
    have e : gapped ((w, n) :: ws) bl = quote w ++ (bl n ++ (59 :: (bl n ++ gapped ws bl))) := by simp [gapped]
    rw [e, spl_quote, spl_skips (hb n), spl_semi, spl_skips (hb n), ih c _ (by simp at hc; omega)]
    rfl
end Go.Proofs.YtnghebedingjaaaDoor.Lx
end
/-! LxF -/
section
/- What the program's reader of tokens computes, over lists of bytes. -/
namespace Go.Proofs.YtnghebedingjaaaDoor.Lx
open Go Go.RowKit Go.Proofs.YtnghebedingjaaaDoor.Px Go.Proofs.YtnghebedingjaaaDoorW.PrintWords Go.Proofs.YtnghebedingjaaaDoor.Str
theorem u8_ext (x : Fin 256) (P : UInt8 → Int → Prop) (h : P (UInt8.ofNat x.val) (x.val : Int)) (b : UInt8) (hb : b.toNat = x.val) : P b (b.toNat : Int) := by
  have e : UInt8.ofNat x.val = b := by rw [← hb]; exact UInt8.ofNat_toNat
  rw [e] at h
  rw [hb]
  exact h
theorem every {P : UInt8 → Int → Prop} (h : ∀ x : Fin 256, P (UInt8.ofNat x.val) (x.val : Int)) (b : UInt8) : P b (b.toNat : Int) := u8_ext ⟨b.toNat, b.toNat_lt⟩ P (h _) b rfl
theorem letter_f : ∀ b : UInt8, lex_letter.f (b.toNat : Int) = some (letter b) := every (P := fun b x => lex_letter.f x = some (letter b)) (by decide +kernel)
theorem digit_f : ∀ b : UInt8, lex_digit.f (b.toNat : Int) = some (digit b) := every (P := fun b x => lex_digit.f x = some (digit b)) (by decide +kernel)
theorem goes1_f : ∀ b : UInt8, lex_more_goesOn.f ⟨#[95, 45]⟩ (b.toNat : Int) = some (goes 1 b) := every (P := fun b x => lex_more_goesOn.f ⟨#[95, 45]⟩ x = some (goes 1 b)) (by decide +kernel)
theorem goes2_f : ∀ b : UInt8, lex_more_goesOn.f ⟨#[46]⟩ (b.toNat : Int) = some (goes 2 b) := every (P := fun b x => lex_more_goesOn.f ⟨#[46]⟩ x = some (goes 2 b)) (by decide +kernel)
theorem goes3_f : ∀ b : UInt8, lex_more_goesOn.f ⟨#[46, 95, 45, 35, 64]⟩ (b.toNat : Int) = some (goes 3 b) := every (P := fun b x => lex_more_goesOn.f ⟨#[46, 95, 45, 35, 64]⟩ x = some (goes 3 b)) (by decide +kernel)
theorem sign_f : ∀ b : UInt8, (decide (0 ≤ Lib.indexByte [123, 125, 40, 41, 59, 61, 43, 44] (b.toNat : Int).toNat.toUInt8)) = sign b := every (P := fun b x => (decide (0 ≤ Lib.indexByte [123, 125, 40, 41, 59, 61, 43, 44] x.toNat.toUInt8)) = sign b) (by decide +kernel)
theorem shut_f : ∀ b : UInt8, (decide (0 ≤ Lib.indexByte [9, 10, 13, 32, 35] (b.toNat : Int).toNat.toUInt8)) = (blank b || decide (b.toNat = 35)) := every (P := fun b x => (decide (0 ≤ Lib.indexByte [9, 10, 13, 32, 35] x.toNat.toUInt8)) = (blank b || decide (b.toNat = 35))) (by decide +kernel)
theorem nibble_f : ∀ b : UInt8, lex_nibble.f (b.toNat : Int) = some (nib b) := every (P := fun b x => lex_nibble.f x = some (nib b)) (by decide +kernel)
theorem nib_range : ∀ b : UInt8, -1 ≤ nib b ∧ nib b < 16 := by
  intro b
  have hb := b.toNat_lt
  unfold nib digit
  simp only [decide_eq_true_eq]
  repeat' split
  all_goals omega
theorem nibs : ∀ x y : Fin 16, (Go.bits .or .i64 (wrap64 ((x.val : Int) * 16)) (y.val : Int)) % 256 = (x.val : Int) * 16 + (y.val : Int) := by decide +kernel
theorem bt_cons {s : ByteArray} {a : UInt8} {l : List UInt8} (h : s.data.toList = a :: l) : bt s 0 = (a.toNat : Int) := by
  have hs : 0 < s.size := by rw [size_L, h]; simp
  have := bt_L hs
  rw [h] at this
  exact this
theorem bt_at {s : ByteArray} {l : List UInt8} (h : s.data.toList = l) (i : Nat) (a : UInt8) (hi : l[i]? = some a) : bt s (i : Int) = (a.toNat : Int) := by
  subst h
  have hs : i < s.size := by
    rw [size_L]
    exact (List.getElem?_eq_some_iff.1 hi).1
  rw [bt_L hs, List.getD_eq_getElem?_getD, hi]
  rfl
theorem drop_f {s : ByteArray} {l : List UInt8} (h : s.data.toList = l) (n : Nat) : (s.extract n s.size).data.toList = l.drop n := by rw [post_L, h]
theorem while_go (m : ByteArray) (k : Int) (hm : ∀ b : UInt8, lex_more_goesOn.f m (b.toNat : Int) = some (goes k b)) (s : ByteArray) (d : Nat) : ∀ (j n : Nat), n + d = s.size → d < j → lex_while.go m s j (n : Int) = some ((n + run k (s.data.toList.drop n) : Nat) : Int) := by
  induction d with
  | zero =>
    intro j n hn hj
    obtain ⟨j, rfl⟩ : ∃ m, j = m + 1 := ⟨j - 1, by omega⟩
    rw [lex_while.go, if_neg (by omega), List.drop_of_length_le (by rw [← size_L]; omega)]
    rfl
  | succ d ih =>
    intro j n hn hj
    obtain ⟨j, rfl⟩ : ∃ m, j = m + 1 := ⟨j - 1, by omega⟩
    have hlt : n < s.data.toList.length := by rw [← size_L]; omega
    rw [lex_while.go, if_pos (by omega), bt_at rfl n _ (List.getElem?_eq_getElem hlt), hm, List.drop_eq_getElem_cons hlt, run]
    simp only [Option.bind_some]
    by_cases hg : goes k s.data.toList[n] = true
    · rw [if_pos hg, if_pos hg]
      have := ih j (n + 1) (by omega) (by omega)
      rw [show ((n + 1 : Nat) : Int) = (n : Int) + 1 by omega] at this
      rw [this]
      congr 2
      omega
    · rw [if_neg hg, if_neg hg]
      rfl
theorem while_f (m : ByteArray) (k : Int) (hm : ∀ b : UInt8, lex_more_goesOn.f m (b.toNat : Int) = some (goes k b)) (s : ByteArray) : lex_while.f m s = some ((run k s.data.toList : Nat) : Int) := by
  unfold lex_while.f
  have := while_go m k hm s s.size (s.size + 1) 0 (by omega) (by omega)
  rw [show ((0 : Nat) : Int) = 0 from rfl] at this
  rw [this]
  simp
theorem ne_nil (x : List UInt8) : (x != ([] : List UInt8)) = decide (x ≠ []) := by cases x <;> rfl
/-- A run of bytes behind the first. -/
theorem run_f (m : ByteArray) (k : Int) (hm : ∀ b : UInt8, lex_more_goesOn.f m (b.toNat : Int) = some (goes k b)) (s : ByteArray) (a : UInt8) (l : List UInt8) (h : s.data.toList = a :: l) (hs : s.size ≤ 1073741824) (ln : Int) :
    lex_reader_run.f s ln k 1 m = some (k, ofL (if k = 3 then l.take (run k l) else (a :: l).take (1 + run k l)), ln, (if k = 3 then decide (l.take (run k l) ≠ []) else true), ofL ((a :: l).drop (1 + run k l)), ln) := by
  have hl : s.size = l.length + 1 := by rw [size_L, h]; rfl
  have hr := run_le k l
  unfold lex_reader_run.f
  rw [if_pos (by omega), while_f m k hm]
  simp only [Option.bind_some]
  rw [show (1 : Int).toNat = 1 from rfl, drop_f h 1]
  simp only [List.drop_succ_cons, List.drop_zero]
  rw [if_pos (by omega), show ((1 : Int) + ((run k l : Nat) : Int)).toNat = 1 + run k l by omega]
  have e1 : (s.extract 1 (1 + run k l)) = ofL (l.take (run k l)) := by
    apply ext
    rw [extract_L, h, ofL_L, Nat.add_comm, List.take_succ_cons]
    rfl
  have e2 : (s.extract 0 (1 + run k l)) = ofL ((a :: l).take (1 + run k l)) := by
    apply ext
    rw [pre_L, h, ofL_L]
  have e3 : (s.extract (1 + run k l) s.size) = ofL ((a :: l).drop (1 + run k l)) := by
    apply ext
    rw [post_L, h, ofL_L]
  rw [e1, e2, e3]
  by_cases hk : k = 3
  · simp only [if_pos hk, toList_L, ofL_L, ne_nil]
  · simp only [if_neg hk, toList_L, ofL_L, ne_nil]
    rw [decide_eq_true (by rw [Nat.add_comm, List.take_succ_cons]; simp)]
def escR (l : List UInt8) : Int × Int := match esc l with
  | none => (0, 0)
  | some (c, n) => ((c.toNat : Int), (n : Int))
theorem empty_L (s : ByteArray) : s.toList = ([] : List UInt8) ↔ s.data.toList = [] := by rw [toList_L]
theorem escaped_f (s : ByteArray) : lex_escaped.f 40 s = some (escR s.data.toList) := by
  unfold lex_escaped.f
  cases h : s.data.toList with
  | nil => rw [if_pos (by rw [empty_L]; exact h)]; rfl
  | cons a l =>
    have hs : s.size = l.length + 1 := by rw [size_L, h]; rfl
    have ha := a.toNat_lt
    rw [if_neg (by rw [empty_L, h]; simp), if_pos (by omega), bt_cons h]
    unfold escR
    simp only [esc]
    by_cases c1 : a.toNat = 34
    · have e0 : ((a.toNat : Int) == 34) = true := by rw [beq_iff_eq]; omega
      rw [if_pos (by omega), e0, if_pos (by omega)]
      simp only [lex_escaped.j0, if_true]
      rw [if_pos (by omega), bt_cons h]
      rfl
    rw [if_neg (by omega)]
    by_cases c2 : a.toNat = 92
    · have e0 : ((a.toNat : Int) == 92) = true := by rw [beq_iff_eq]; omega
      rw [e0, if_pos (by omega)]
      simp only [lex_escaped.j0, if_true]
      rw [if_pos (by omega), bt_cons h]
      rfl
    have e0 : ((a.toNat : Int) == 92) = false := by rw [beq_eq_false_iff_ne]; omega
    rw [e0, if_neg (by omega)]
    simp only [lex_escaped.j0]
    rw [if_neg (by decide)]
    by_cases c3 : a.toNat = 110
    · rw [if_pos (by omega), if_pos c3]; rfl
    rw [if_neg (by omega), if_neg c3]
    by_cases c4 : a.toNat = 116
    · rw [if_pos (by omega), if_pos c4]; rfl
    rw [if_neg (by omega), if_neg c4, if_pos (by omega), bt_cons h]
    by_cases c5 : a.toNat = 120
    · rw [if_pos (by omega), if_pos c5]
      match l, h, hs with
      | [], h, hs => rw [if_pos (by simp at hs; omega)]; simp only [lex_escaped.j1, if_true]
      | [b], h, hs => rw [if_pos (by simp at hs; omega)]; simp only [lex_escaped.j1, if_true]
      | b :: c :: r, h, hs =>
        simp only [List.length_cons] at hs
        have hb := bt_at h 1 b rfl
        have hc := bt_at h 2 c rfl
        rw [show ((1 : Nat) : Int) = 1 from rfl] at hb
        rw [show ((2 : Nat) : Int) = 2 from rfl] at hc
        have r1 := nib_range b
        have r2 := nib_range c
        rw [if_neg (by omega), if_pos (by omega), hb, hc, nibble_f, nibble_f]
        simp only [Option.bind_some]
        by_cases n1 : nib b < 0
        · rw [if_pos n1, if_neg (by omega)]
          simp only [lex_escaped.j1, if_true]
        · rw [if_neg n1, if_pos (by omega)]
          by_cases n2 : nib c < 0
          · rw [decide_eq_true n2, if_neg (by omega)]
            simp only [lex_escaped.j1, if_true]
          · rw [decide_eq_false n2, if_pos (by omega)]
            simp only [lex_escaped.j1]
            rw [if_neg (by decide), if_pos (by omega), hb, hc, nibble_f, nibble_f]
            simp only [Option.bind_some]
            rw [if_pos (by omega)]
            have hn := nibs ⟨(nib b).toNat, by omega⟩ ⟨(nib c).toNat, by omega⟩
            simp only at hn
            rw [show ((nib b).toNat : Int) = nib b by omega, show ((nib c).toNat : Int) = nib c by omega] at hn
            rw [hn]
            congr 2
            rw [UInt8.toNat_ofNat']
            omega
    · rw [if_neg (by omega), if_neg c5]
      simp only [lex_escaped.j1, if_true]
def txtR (acc l : List UInt8) : Option (List UInt8 × ByteArray) := match txt l with
  | none => none
  | some (t, r) => some (acc ++ t, ofL r)
theorem text_go (d : Nat) : ∀ (k : Nat) (s : ByteArray) (acc : List UInt8), s.size ≤ d → d < k → acc.length + s.size ≤ 1073741824 → lex_reader_text.go k s acc = some (txtR acc s.data.toList) := by
  induction d with
  | zero =>
    intro k s acc hd hk ha
    obtain ⟨k, rfl⟩ : ∃ m, k = m + 1 := ⟨k - 1, by omega⟩
    have h : s.data.toList = [] := List.length_eq_zero_iff.mp (by rw [← size_L]; omega)
    rw [lex_reader_text.go, if_pos (by rw [empty_L]; exact h)]
    unfold txtR
    rw [h, txt_nil]
  | succ d ih =>
    intro k s acc hd hk ha
    obtain ⟨k, rfl⟩ : ∃ m, k = m + 1 := ⟨k - 1, by omega⟩
    cases h : s.data.toList with
    | nil =>
      rw [lex_reader_text.go, if_pos (by rw [empty_L]; exact h)]
      unfold txtR
      rw [txt_nil]
    | cons a l =>
      have hs : s.size = l.length + 1 := by rw [size_L, h]; rfl
      have hb := a.toNat_lt
      have e1 : (s.extract 1 s.size).data.toList = l := by rw [drop_f h 1]; rfl
      have z1 : (s.extract 1 s.size).size = l.length := by rw [size_L, e1]
      have eo : s.extract 1 s.size = ofL l := by apply ext; rw [e1, ofL_L]
      rw [lex_reader_text.go, if_neg (by rw [empty_L, h]; simp), bt_cons h]
      unfold txtR
      by_cases c1 : a.toNat = 34
      · rw [if_pos (by omega), txt_end c1, eo]
        simp
      rw [if_neg (by omega)]
      by_cases c2 : a.toNat < 32
      · rw [if_pos (by omega), txt_low c2]
      rw [if_neg (by omega)]
      by_cases c3 : a.toNat = 92
      · rw [if_pos (by omega), escaped_f, e1]
        simp only [Option.bind_some]
        unfold escR
        cases he : esc l with
        | none => rw [txt_bad c3 he]; simp
        | some x =>
          obtain ⟨c, m⟩ := x
          have hm := esc_pos he
          have hcb := c.toNat_lt
          rw [txt_esc c3 he]
          simp only
          rw [if_neg (by omega), if_pos (by omega), show ((m : Int) + 1).toNat = m + 1 by omega]
          have e2 : (s.extract (m + 1) s.size).data.toList = l.drop m := by rw [drop_f h (m + 1)]; rfl
          have z2 : (s.extract (m + 1) s.size).size = l.length - m := by rw [size_L, e2, List.length_drop]
          rw [ih k _ _ (by omega) (by omega) (by rw [List.length_append, List.length_singleton]; omega), e2]
          unfold txtR
          rw [show UInt8.ofNat ((c.toNat : Int)).toNat = c from u8_nat c]
          cases txt (l.drop m) with
          | none => rfl
          | some y => simp
      · rw [if_neg (by omega), if_pos (by omega), ih k _ _ (by omega) (by omega) (by rw [List.length_append, List.length_singleton]; omega), e1, txt_one c1 (by omega) c3]
        unfold txtR
        rw [show UInt8.ofNat ((a.toNat : Int)).toNat = a from u8_nat a]
        cases txt l with
        | none => rfl
        | some y => simp
/-- What the reader tells of a token. -/
theorem token_some {s : ByteArray} {k : Int} {t : List UInt8} {n : Nat} (ht : tok s.data.toList = some (k, t, n)) (hs : s.size ≤ 1073741824) (ln : Int) :
    lex_reader_token.f s ln = some (k, ofL t, ln, true, ofL (s.data.toList.drop n), ln) := by
  cases h : s.data.toList with
  | nil => rw [h] at ht; cases ht
  | cons a l =>
    have hz : s.size = l.length + 1 := by rw [size_L, h]; rfl
    rw [h] at ht
    unfold lex_reader_token.f
    rw [if_pos (by omega), bt_cons h, letter_f]
    simp only [Option.bind_some]
    simp only [tok] at ht
    by_cases c1 : letter a = true
    · rw [if_neg (by rw [letter_sign a c1]; decide), if_pos c1] at ht
      rw [if_pos c1, run_f _ 1 goes1_f s a l h hs]
      cases ht
      rw [run_letter c1, Nat.add_comm 1]
      simp
    rw [if_neg c1, digit_f]
    simp only [Option.bind_some]
    by_cases c2 : digit a = true
    · rw [if_neg (by rw [(digit_letter a c2).2]; decide), if_neg c1, if_pos c2] at ht
      rw [if_pos c2, run_f _ 2 goes2_f s a l h hs]
      cases ht
      rw [run_digit c2, Nat.add_comm 1]
      simp
    rw [if_neg c2]
    by_cases c3 : a.toNat = 36
    · rw [if_neg (by unfold sign; simp only [decide_eq_true_eq]; omega), if_neg c1, if_neg c2, if_pos c3] at ht
      split at ht
      · cases ht
      · rename_i hr
        cases ht
        rw [if_pos (by omega), run_f _ 3 goes3_f s a l h hs]
        simp only [if_true]
        rw [decide_eq_true (by
          intro z
          have := congrArg List.length z
          have h1 := run_le 3 l
          rw [List.length_take] at this
          simp only [List.length_nil] at this
          omega)]
    rw [if_neg (by omega)]
    by_cases c4 : a.toNat = 34
    · rw [if_neg (by unfold sign; simp only [decide_eq_true_eq]; omega), if_neg c1, if_neg c2, if_neg c3, if_pos c4] at ht
      have e1 : (s.extract 1 s.size).data.toList = l := by rw [drop_f h 1]; rfl
      have z1 : (s.extract 1 s.size).size = l.length := by rw [size_L, e1]
      rw [if_pos (by omega)]
      unfold lex_reader_text.f
      rw [if_pos (by omega), text_go s.size (s.size + 1) _ [] (by omega) (by omega) (by simp; omega), e1]
      simp only [Option.bind_some]
      unfold txtR
      cases hx : txt l with
      | none => rw [hx] at ht; cases ht
      | some y =>
        obtain ⟨t', r⟩ := y
        rw [hx] at ht
        cases ht
        have hle := txt_le l.length (Nat.le_refl _) hx
        simp only [List.nil_append]
        congr 4
        rw [Nat.add_comm, List.drop_succ_cons, ← hle.2.2]
    rw [if_neg (by omega)]
    by_cases c5 : sign a = true
    · rw [if_pos c5] at ht
      cases ht
      unfold strings_IndexByte.f
      simp only [Option.bind_some]
      have hd := sign_f a
      rw [c5] at hd
      rw [if_pos (of_decide_eq_true hd)]
      have e1 : s.extract 1 s.size = ofL l := by apply ext; rw [drop_f h 1]; rfl
      have e2 : strOfNums [(a.toNat : Int)] = ofL [a] := by
        apply ext
        rw [nums_L, ofL_L]
        simp
      rw [e1, e2]
      rfl
    · rw [if_neg c5, if_neg c1, if_neg c2, if_neg c3, if_neg c4] at ht
      cases ht
theorem token_none {s : ByteArray} (ht : tok s.data.toList = none) (h0 : s.data.toList ≠ []) (hs : s.size ≤ 1073741824) (ln : Int) :
    ∃ a b c d, lex_reader_token.f s ln = some (a, b, c, false, d, ln) := by
  cases h : s.data.toList with
  | nil => exact absurd h h0
  | cons a l =>
    have hz : s.size = l.length + 1 := by rw [size_L, h]; rfl
    rw [h] at ht
    unfold lex_reader_token.f
    rw [if_pos (by omega), bt_cons h, letter_f]
    simp only [Option.bind_some]
    simp only [tok] at ht
    by_cases c5 : sign a = true
    · rw [if_pos c5] at ht; cases ht
    rw [if_neg c5] at ht
    by_cases c1 : letter a = true
    · rw [if_pos c1] at ht; cases ht
    rw [if_neg c1] at ht
    rw [if_neg c1, digit_f]
    simp only [Option.bind_some]
    by_cases c2 : digit a = true
    · rw [if_pos c2] at ht; cases ht
    rw [if_neg c2] at ht
    rw [if_neg c2]
    by_cases c3 : a.toNat = 36
    · rw [if_pos c3] at ht
      split at ht
      · rename_i hr
        rw [if_pos (by omega), run_f _ 3 goes3_f s a l h hs, hr]
        simp only [if_true, List.take_zero]
        exact ⟨_, _, _, _, rfl⟩
      · cases ht
    rw [if_neg c3] at ht
    rw [if_neg (by omega)]
    by_cases c4 : a.toNat = 34
    · rw [if_pos c4] at ht
      have e1 : (s.extract 1 s.size).data.toList = l := by rw [drop_f h 1]; rfl
      have z1 : (s.extract 1 s.size).size = l.length := by rw [size_L, e1]
      rw [if_pos (by omega)]
      unfold lex_reader_text.f
      rw [if_pos (by omega), text_go s.size (s.size + 1) _ [] (by omega) (by omega) (by simp; omega), e1]
      simp only [Option.bind_some]
      unfold txtR
      cases hx : txt l with
      | none => exact ⟨_, _, _, _, rfl⟩
      | some y => rw [hx] at ht; cases ht
    rw [if_neg (by omega)]
    unfold strings_IndexByte.f
    simp only [Option.bind_some]
    have hd := sign_f a
    rw [show sign a = false by simpa using c5] at hd
    rw [if_neg (of_decide_eq_false hd)]
    exact ⟨_, _, _, _, rfl⟩
end Go.Proofs.YtnghebedingjaaaDoor.Lx
end
/-! Pre -/
section
/- strings.HasPrefix and strings.CutPrefix over lists. -/
namespace Go.Proofs.YtnghebedingjaaaDoor.Pre
open Go Go.RowKit Go.Proofs.YtnghebedingjaaaDoor.Px Go.Proofs.YtnghebedingjaaaDoorW.PrintWords Go.Proofs.YtnghebedingjaaaDoor.Str
theorem take_short {a b : List UInt8} (h : a.length < b.length) : ¬ a.take b.length = b := by
  intro z
  have := congrArg List.length z
  rw [List.length_take] at this
  omega
theorem lite_f (a b : ByteArray) : stringslite_HasPrefix.f a b = some (decide (a.data.toList.take b.data.toList.length = b.data.toList)) := by
  unfold stringslite_HasPrefix.f
  by_cases h : b.size ≤ a.size
  · rw [if_pos (by omega), if_pos (by omega), if_pos (by omega), toList_L, toList_L, pre_L, Int.toNat_natCast, ← size_L]
    congr 1
    rw [Bool.eq_iff_iff, beq_iff_eq, decide_eq_true_eq]
  · rw [if_neg (by omega), decide_eq_false (take_short (by rw [← size_L, ← size_L]; omega))]
theorem has_f (a b : ByteArray) : strings_HasPrefix.f a b = some (decide (a.data.toList.take b.data.toList.length = b.data.toList)) := by
  unfold strings_HasPrefix.f
  rw [lite_f]
  rfl
def cutR (l p : List UInt8) : ByteArray × Bool := if l.take p.length = p then (ofL (l.drop p.length), true) else (ofL l, false)
end Go.Proofs.YtnghebedingjaaaDoor.Pre
end
/-! LxG -/
section
/- What the program's Split, Quote and Print compute, over lists of bytes. -/
namespace Go.Proofs.YtnghebedingjaaaDoor.Lx
open Go Go.RowKit Go.Proofs.YtnghebedingjaaaDoor.Px Go.Proofs.YtnghebedingjaaaDoorW.PrintWords Go.Proofs.YtnghebedingjaaaDoor.Str
theorem skip_blanks (l : List UInt8) : ∀ ln : Int, skip false l ln = skip false (l.dropWhile blank) (ln + cnt (l.takeWhile blank)) := by
  induction l with
  | nil => intro ln; simp [cnt]
  | cons b l ih =>
    intro ln
    by_cases hb : blank b = true
    · rw [skip_blank hb, ih, List.dropWhile_cons_of_pos hb, List.takeWhile_cons_of_pos hb]
      congr 1
      unfold cnt
      rw [List.countP_cons]
      by_cases h10 : b.toNat = 10
      · rw [if_pos h10]; simp [h10]; omega
      · rw [if_neg h10]; simp [h10]
    · rw [List.dropWhile_cons_of_neg hb, List.takeWhile_cons_of_neg hb]
      simp [cnt]
def no10 (b : UInt8) : Bool := !decide (b.toNat = 10)
theorem skip_remark (l : List UInt8) : ∀ ln : Int, skip true l ln = skip false (l.dropWhile no10) ln := by
  induction l with
  | nil => intro ln; rfl
  | cons b l ih =>
    intro ln
    by_cases hb : b.toNat = 10
    · rw [List.dropWhile_cons_of_neg (by simp [no10, hb]), skip_blank (by unfold blank; simp [hb]), skip, if_pos (by simp), if_pos hb]
    · rw [List.dropWhile_cons_of_pos (by simp [no10, hb]), ← ih, skip, if_pos (by simp), if_neg hb, if_neg hb]
      congr 1
      split <;> rfl
theorem idx10 (l : List UInt8) : (Lib.indexByte l 10 = -1 ∧ l.dropWhile no10 = []) ∨ ∃ o : Nat, Lib.indexByte l 10 = o ∧ o < l.length ∧ l.drop o = l.dropWhile no10 := by
  induction l with
  | nil => exact .inl ⟨rfl, rfl⟩
  | cons b l ih =>
    unfold Lib.indexByte
    by_cases hb : b.toNat = 10
    · have : b = 10 := UInt8.toNat_inj.1 hb
      rw [if_pos (by simp [this]), List.dropWhile_cons_of_neg (by simp [no10, hb])]
      exact .inr ⟨0, rfl, by simp, rfl⟩
    · have : b ≠ 10 := fun e => hb (by rw [e]; rfl)
      rw [if_neg (by simpa using this), List.dropWhile_cons_of_pos (by simp [no10, hb])]
      rcases ih with ⟨h1, h2⟩ | ⟨o, h1, h2, h3⟩
      · rw [h1, if_pos (by decide)]; exact .inl ⟨rfl, h2⟩
      · rw [h1, if_neg (by simp)]
        exact .inr ⟨o + 1, by omega, by simpa using h2, by rw [List.drop_succ_cons]; exact h3⟩
theorem blanks_has : ∀ b : UInt8, ([9, 10, 13, 32] : List UInt8).contains b = blank b := fun b => every (P := fun b _ => ([9, 10, 13, 32] : List UInt8).contains b = blank b) (by decide +kernel) b
theorem trim_f (s : ByteArray) : strings_TrimLeft.f s ⟨#[9, 10, 13, 32]⟩ = some (ofL (s.data.toList.dropWhile blank)) := by
  unfold strings_TrimLeft.f
  rw [if_pos (by decide)]
  congr 1
  show (⟨(Lib.trimLeftS s.data.toList [9, 10, 13, 32]).toArray⟩ : ByteArray) = _
  unfold Lib.trimLeftS
  rw [show (fun x => ([9, 10, 13, 32] : List UInt8).contains x) = blank from funext blanks_has]
  rfl
theorem parts (p : UInt8 → Bool) (l : List UInt8) : (l.dropWhile p).length ≤ l.length ∧ l.drop (l.length - (l.dropWhile p).length) = l.dropWhile p ∧ l.take (l.length - (l.dropWhile p).length) = l.takeWhile p ∧ (l.takeWhile p).length + (l.dropWhile p).length = l.length := by
  have h := List.takeWhile_append_dropWhile (p := p) (l := l)
  have hl := congrArg List.length h
  rw [List.length_append] at hl
  have e : l.length - (l.dropWhile p).length = (l.takeWhile p).length := by omega
  rw [e]
  refine ⟨by omega, ?_, ?_, hl⟩
  · have z := List.drop_left (l₁ := l.takeWhile p) (l₂ := l.dropWhile p)
    rw [h] at z
    exact z
  · have z := List.take_left (l₁ := l.takeWhile p) (l₂ := l.dropWhile p)
    rw [h] at z
    exact z
theorem count_f (s : ByteArray) : strings_Count.f s ⟨#[10]⟩ = some ((cnt s.data.toList : Nat) : Int) := by
  unfold strings_Count.f
  rw [if_pos (show (⟨#[10]⟩ : ByteArray).size = 1 from rfl)]
  congr 2
  show s.data.toList.count 10 = _
  unfold cnt List.count
  congr 1
  funext b
  rw [Bool.eq_iff_iff, beq_iff_eq, decide_eq_true_eq]
  exact ⟨fun e => by rw [e]; rfl, fun e => UInt8.toNat_inj.1 e⟩
theorem cnt_le (l : List UInt8) : cnt l ≤ l.length := List.countP_le_length
theorem skip_go (d : Nat) : ∀ (k : Nat) (s : ByteArray) (ln : Int), s.size ≤ d → d < k → 0 ≤ ln → ln + s.size ≤ 1073741824 → lex_reader_skip.go k s ln = some (ofL (skip false s.data.toList ln).1, (skip false s.data.toList ln).2) := by
  induction d with
  | zero =>
    intro k s ln hd hk h0 h1
    obtain ⟨k, rfl⟩ : ∃ m, k = m + 1 := ⟨k - 1, by omega⟩
    have h : s.data.toList = [] := List.length_eq_zero_iff.mp (by rw [← size_L]; omega)
    have e : s = ofL [] := by apply ext; rw [h]; rfl
    subst e
    rw [lex_reader_skip.go, trim_f]
    simp only [Option.bind_some, ofL_L, List.dropWhile_nil]
    have el : lex_reader_skip.left (ofL []) (ofL []) = ofL [] := rfl
    rw [if_pos (by rw [el]; simp), count_f]
    simp only [Option.bind_some]
    rw [if_pos (by rw [show (cnt ((ofL []).extract 0 ((ofL []).size - (ofL []).size)).data.toList) = 0 from rfl]; omega), el, Pre.has_f]
    simp only [Option.bind_some]
    rw [if_pos (by decide)]
    simp [skip]
    simp [cnt]
  | succ d ih =>
    intro k s ln hd hk h0 h1
    obtain ⟨k, rfl⟩ : ∃ m, k = m + 1 := ⟨k - 1, by omega⟩
    obtain ⟨p1, p2, p3, p4⟩ := parts blank s.data.toList
    rw [skip_blanks]
    rw [lex_reader_skip.go, trim_f]
    simp only [Option.bind_some]
    generalize hD : s.data.toList.dropWhile blank = D at p1 p2 p3 p4
    generalize hT : s.data.toList.takeWhile blank = X at p3 p4
    have hsz := size_L s
    have el : lex_reader_skip.left s (ofL D) = ofL D := by
      unfold lex_reader_skip.left
      apply ext
      rw [post_L, ofL_size, ofL_L, hsz]
      exact p2
    have ec : (s.extract 0 (s.size - (ofL D).size)).data.toList = X := by
      rw [pre_L, ofL_size, hsz]
      exact p3
    have hc := cnt_le X
    rw [if_pos (by rw [el, ofL_size]; omega), count_f]
    simp only [Option.bind_some]
    rw [ec, if_pos (by omega), el, Pre.has_f]
    simp only [Option.bind_some]
    rw [ofL_L]
    cases D with
    | nil =>
      rw [if_pos (by decide)]
      rfl
    | cons b r =>
      have hb : blank b = false := by
        have := List.head_dropWhile_not blank (l := s.data.toList) (by rw [hD]; simp)
        simpa [hD] using this
      by_cases h35 : b.toNat = 35
      · have e35 : b = 35 := UInt8.toNat_inj.1 h35
        have hs : skip false (b :: r) (ln + cnt X) = skip false (r.dropWhile no10) (ln + cnt X) := by
          rw [skip, if_pos (by simp [h35]), if_neg (by omega), if_pos h35, if_neg (by omega), skip_remark]
        have hr : (b :: r).dropWhile no10 = r.dropWhile no10 := List.dropWhile_cons_of_pos (by simp [no10, h35])
        rw [if_neg (by rw [e35]; simp)]
        unfold strings_IndexByte.f
        simp only [Option.bind_some, ofL_L]
        rw [show (10 : Int).toNat.toUInt8 = 10 from rfl]
        have hlen : (ofL (b :: r)).size = r.length + 1 := by simp
        rw [if_pos (by omega), hs]
        simp only [List.length_cons] at p4 p1
        rcases idx10 (b :: r) with ⟨q1, q2⟩ | ⟨o, q1, q2, q3⟩
        · rw [q1, if_pos (by decide)]
          have e : (ofL (b :: r)).extract (ofL (b :: r)).size (ofL (b :: r)).size = ofL [] := by
            apply ext
            rw [post_L, List.drop_of_length_le (by rw [size_L]; exact Nat.le_refl _)]
            rfl
          rw [e, ih k _ _ (by simp) (by omega) (by omega) (by simp; omega), ← hr, q2]
          rfl
        · have ho : 1 ≤ o := by
            rcases Nat.eq_zero_or_pos o with z | z
            · subst z
              rw [hr, List.drop_zero] at q3
              have := congrArg List.length q3
              have h2 := (parts no10 r).1
              simp at this
              omega
            · exact z
          simp only [List.length_cons] at q2
          rw [q1, if_neg (by omega), if_pos (by omega), Int.toNat_natCast]
          have e : ((ofL (b :: r)).extract o (ofL (b :: r)).size).data.toList = r.dropWhile no10 := by rw [post_L, ofL_L, q3, hr]
          have ez : ((ofL (b :: r)).extract o (ofL (b :: r)).size).size = (r.dropWhile no10).length := by rw [size_L, e]
          have h2 := (parts no10 r).1
          rw [ih k _ _ (by omega) (by omega) (by omega) (by omega), e]
      · have e35 : b ≠ 35 := fun z => h35 (by rw [z]; rfl)
        rw [if_pos (by simp [e35]), skip, if_neg (by simp [hb, h35])]
theorem skip_f (s : ByteArray) (ln : Int) (h0 : 0 ≤ ln) (h1 : ln + s.size ≤ 1073741824) : lex_reader_skip.f s ln = some (ofL (skip false s.data.toList ln).1, (skip false s.data.toList ln).2) :=
  skip_go s.size (s.size + 1) s ln (Nat.le_refl _) (by omega) h0 h1
def mk (x : T) : S25 := ⟨x.1, ofL x.2.1, x.2.2⟩
def splR (L : List S25) (x : List T × Option (Int × Int)) : List S25 × Int × Int := match x.2 with
  | none => (L ++ x.1.map mk, 0, 0)
  | some (ln, e) => ([], ln, e)
theorem split_go (d : Nat) : ∀ (k : Nat) (s : ByteArray) (ln : Int) (L : List S25), s.size ≤ d → d < k → 0 ≤ ln → ln + s.size ≤ 1073741824 → L.length ≤ 4096 →
    lex_Split.go k s ln L = some (splR L (spl (4096 - L.length) s.data.toList ln)) := by
  induction d with
  | zero =>
    intro k s ln L hd hk h0 h1 hL
    obtain ⟨k, rfl⟩ : ∃ m, k = m + 1 := ⟨k - 1, by omega⟩
    have h : s.data.toList = [] := List.length_eq_zero_iff.mp (by rw [← size_L]; omega)
    rw [lex_Split.go, skip_f s ln h0 h1, h]
    simp only [Option.bind_some, skip]
    rw [if_pos (by rw [empty_L]; rfl), spl_end (by rfl)]
    simp [splR]
  | succ d ih =>
    intro k s ln L hd hk h0 h1 hL
    obtain ⟨k, rfl⟩ : ∃ m, k = m + 1 := ⟨k - 1, by omega⟩
    rw [lex_Split.go, skip_f s ln h0 h1]
    simp only [Option.bind_some]
    have hle := (skip_le s.data.toList false ln).1
    have hmo := skip_mono false s.data.toList ln
    have hcn := skip_cnt false s.data.toList ln
    have hc1 := (skip_le s.data.toList false ln).2.2
    have hc2 := cnt_le (s.data.toList.take (s.data.toList.length - (skip false s.data.toList ln).1.length))
    rw [List.length_take, ← size_L] at hc2
    rw [← size_L] at hle hc1
    by_cases hz : (skip false s.data.toList ln).1 = []
    · rw [if_pos (by rw [empty_L, ofL_L]; exact hz), spl_end hz]
      simp [splR]
    · rw [if_neg (by rw [empty_L, ofL_L]; exact hz)]
      cases ht : tok (skip false s.data.toList ln).1 with
      | none =>
        obtain ⟨a, b, c, e, h⟩ := token_none (s := ofL (skip false s.data.toList ln).1) ht hz (by rw [ofL_size]; omega) (skip false s.data.toList ln).2
        rw [h, spl_bad hz ht]
        simp only [Option.bind_some, if_true]
        try rfl
      | some x =>
        obtain ⟨kd, t, n⟩ := x
        have hn := tok_le ht
        rw [token_some (s := ofL (skip false s.data.toList ln).1) ht (by rw [ofL_size]; omega) (skip false s.data.toList ln).2]
        simp only [Option.bind_some]
        rw [if_neg (by decide)]
        by_cases hf : L.length = 4096
        · rw [if_pos hf, show 4096 - L.length = 0 by omega, spl_full ht]
          rfl
        · rw [if_neg hf, show 4096 - L.length = (4096 - (L.length + 1)) + 1 by omega, spl_more ht, ofL_L]
          have hsz : ((skip false s.data.toList ln).1.drop n).length < s.size := by rw [List.length_drop]; omega
          rw [if_pos ⟨by omega, by rw [ofL_size]; exact hsz⟩]
          have hl1 : (skip false s.data.toList ln).1.length ≤ s.size := hle
          rw [ih k _ _ _ (by rw [ofL_size]; omega) (by omega) (by omega) (by rw [ofL_size, List.length_drop]; omega) (by rw [List.length_append, List.length_singleton]; omega), ofL_L]
          rw [List.length_append, List.length_singleton]
          unfold splR
          simp only
          cases (spl (4096 - (L.length + 1)) ((skip false s.data.toList ln).1.drop n) (skip false s.data.toList ln).2).2 with
          | none => simp [mk]
          | some y => rfl
def splitR (l : List UInt8) : List S25 × Int × Int := if l.length > 65536 then ([], 0, 2) else splR [] (spl 4096 l 1)
theorem split_f (s : ByteArray) : lex_Split.f s = some (splitR s.data.toList) := by
  unfold lex_Split.f splitR
  rw [← size_L]
  by_cases h : s.size > 65536
  · rw [if_pos (by omega), if_pos h]
  · rw [if_neg (by omega), if_neg h, split_go s.size (s.size + 1) s 1 [] (Nat.le_refl _) (by omega) (by omega) (by omega) (by simp)]
    rfl
theorem qone_eq : ∀ y : UInt8, lex_Quote.one y = qone y := fun b => every (P := fun b _ => lex_Quote.one b = qone b) (by decide +kernel) b
theorem quote_f (s : ByteArray) (h : s.size ≤ 1073741824) : lex_Quote.f s = some (ofL (quote s.data.toList)) := by
  unfold lex_Quote.f
  rw [if_pos h]
  congr 1
  apply ext
  show lex_Quote.all s.data.toList ++ [34] = quote s.data.toList
  unfold lex_Quote.all quote
  rw [List.cons_append, show lex_Quote.one = qone from funext qone_eq]
theorem stands_f (k : Int) (t : ByteArray) (ln : Int) (h : t.size ≤ 1073741824) : lex_Token_stands.f k t ln = some (ofL (stands k t.data.toList)) := by
  unfold lex_Token_stands.f stands
  by_cases h3 : k = 3
  · rw [if_pos h3, if_pos (by omega), if_pos h3]
    congr 1
  · rw [if_neg h3, if_neg h3]
    by_cases h4 : k = 4
    · rw [if_pos h4, if_pos h4, quote_f t h]; rfl
    · rw [if_neg h4, if_neg h4, ofL_of]
theorem ends_f : ∀ b : UInt8, (decide (0 ≤ Lib.indexByte [59, 123, 125] b)) = decide (b.toNat = 59 ∨ b.toNat = 123 ∨ b.toNat = 125) := fun b => every (P := fun b _ => (decide (0 ≤ Lib.indexByte [59, 123, 125] b)) = decide (b.toNat = 59 ∨ b.toNat = 123 ∨ b.toNat = 125)) (by decide +kernel) b
theorem stands_length (k : Int) (t : List UInt8) : (stands k t).length ≤ 4 * t.length + 2 := by
  have := flat_length t
  unfold stands
  split
  · simp; omega
  · split
    · rw [quote_length]; omega
    · omega
theorem print_one (t : S25) (h : t.f1.size ≤ 134217728) : lex_Print.one t = some (if may t.f0 t.f1.data.toList = true then some (stands t.f0 t.f1.data.toList ++ [behind t.f0 t.f1.data.toList]) else none) := by
  obtain ⟨k, t, ln⟩ := t
  simp only at h ⊢
  have hsl := stands_length k t.data.toList
  rw [← size_L] at hsl
  have hm := may_iff k t.data.toList
  unfold lex_Print.one
  simp only
  rw [stands_f k t ln (by omega)]
  simp only [Option.bind_some]
  by_cases hz : stands k t.data.toList = []
  · rw [if_pos (by rw [empty_L, ofL_L]; exact hz), if_neg (fun z => stands_ne z hz)]
  · rw [if_neg (by rw [empty_L, ofL_L]; exact hz)]
    obtain ⟨a, l, hl⟩ : ∃ a l, stands k t.data.toList = a :: l := by
      cases h : stands k t.data.toList with
      | nil => exact absurd h hz
      | cons a l => exact ⟨a, l, rfl⟩
    rw [bt_cons (s := ofL (stands k t.data.toList)) (a := a) (l := l) (by rw [ofL_L]; exact hl)]
    unfold strings_IndexByte.f
    simp only [Option.bind_some]
    have hd := shut_f a
    by_cases hb : (blank a || decide (a.toNat = 35)) = true
    · rw [hb] at hd
      rw [if_pos (of_decide_eq_true hd)]
      have hn : may k t.data.toList ≠ true := by
        intro z
        have := hm.1 z
        rw [hl, tok_blank (by simpa using hb)] at this
        cases this
      rw [if_neg hn]
    · rw [show (blank a || decide (a.toNat = 35)) = false by simpa using hb] at hd
      rw [if_neg (of_decide_eq_false hd)]
      cases ht : tok (stands k t.data.toList) with
      | none =>
        obtain ⟨x, y, z, e, h⟩ := token_none (s := ofL (stands k t.data.toList)) (by rw [ofL_L]; exact ht) (by rw [ofL_L]; exact hz) (by rw [ofL_size]; omega) ln
        rw [h]
        simp only [Option.bind_some, if_true]
        rw [if_neg (fun z => by rw [hm.1 z] at ht; cases ht)]
      | some x =>
        obtain ⟨k', t', n⟩ := x
        have hn := tok_le ht
        rw [token_some (s := ofL (stands k t.data.toList)) (by rw [ofL_L]; exact ht) (by rw [ofL_size]; omega) ln]
        simp only [Option.bind_some]
        rw [if_neg (by decide)]
        by_cases hm' : may k t.data.toList = true
        · have := hm.1 hm'
          rw [ht] at this
          simp only [Option.some.injEq, Prod.mk.injEq] at this
          obtain ⟨rfl, rfl, rfl⟩ := this
          rw [if_neg (by simp [ofL_of]), if_neg (by rw [ofL_L, ne_eq, Classical.not_not, empty_L, ofL_L, List.drop_length]), if_pos (by rw [ofL_size]; omega), if_pos hm']
          by_cases h5 : k' = 5
          · subst h5
            rw [if_pos rfl]
            obtain ⟨c, hc⟩ : ∃ c, t.data.toList = [c] := by
              have h6 := hm'
              unfold may at h6
              rw [if_neg (by decide), if_neg (by decide), if_neg (by decide), if_neg (by decide), if_pos rfl] at h6
              match t.data.toList, h6 with
              | [c], _ => exact ⟨c, rfl⟩
            have es : stands 5 t.data.toList = [c] := by unfold stands; rw [if_neg (by decide), if_neg (by decide), hc]
            rw [es]
            unfold strings_Contains.f
            rw [if_pos (by simp)]
            simp only [Option.bind_some, ofL_L]
            have he := ends_f c
            show some (some ([c] ++ [if (decide (0 ≤ Lib.indexByte [59, 123, 125] c)) = true then (10 : UInt8) else 32])) = _
            rw [he, hc]
            unfold behind
            congr 4
            simp only [decide_eq_true_eq, true_and, List.cons.injEq, and_true, ← UInt8.toNat_inj]
            rfl
          · rw [if_neg h5, ofL_L]
            unfold behind
            rw [if_neg (fun z => h5 z.1)]
        · rw [if_neg hm']
          by_cases he : k' = k ∧ ofL t' = t ∧ True
          · rw [if_neg (by simpa using he), if_pos]
            rw [ofL_L, ne_eq, empty_L, ofL_L]
            intro z
            apply hm'
            apply hm.2
            obtain ⟨rfl, rfl, _⟩ := he
            rw [ofL_L] at ht z hn ⊢
            have hx := congrArg List.length z
            rw [List.length_drop, List.length_nil] at hx
            rw [ht]
            congr 3
            omega
          · rw [if_pos he]
def kt (x : S25) : Int × List UInt8 := (x.f0, x.f1.data.toList)
def printR (l : List S25) : ByteArray × Int := if ∀ x ∈ l, may x.f0 x.f1.data.toList = true then (ofL (prt (l.map kt)), 0) else (ofL [], 140)
theorem print_go (l : List S25) : ∀ (acc : List UInt8), (∀ z ∈ l, z.f1.size ≤ 134217728) → acc.length + l.length * 1073741827 ≤ 70368744177664 →
    lex_Print.go l acc = some (if ∀ x ∈ l, may x.f0 x.f1.data.toList = true then (ofL (acc ++ prt (l.map kt)), 0) else (ofL [], 140)) := by
  induction l with
  | nil =>
    intro acc _ _
    rw [lex_Print.go, if_pos (by simp)]
    simp [prt]
    rfl
  | cons t l ih =>
    intro acc hz ha
    rw [List.length_cons] at ha
    have ht := hz t (by simp)
    have hsl := stands_length t.f0 t.f1.data.toList
    rw [← size_L] at hsl
    rw [lex_Print.go, print_one t ht]
    simp only [Option.bind_some]
    by_cases hm : may t.f0 t.f1.data.toList = true
    · rw [if_pos hm]
      simp only
      rw [if_pos (by rw [List.length_append, List.length_singleton]; omega), ih _ (fun z h => hz z (by simp [h])) (by rw [List.length_append, List.length_append, List.length_singleton]; omega)]
      by_cases ha : ∀ x ∈ l, may x.f0 x.f1.data.toList = true
      · rw [if_pos ha, if_pos (by intro x hx; rw [List.mem_cons] at hx; rcases hx with rfl | hx; exact hm; exact ha x hx)]
        simp [prt, kt]
      · rw [if_neg ha, if_neg (fun z => ha (fun x hx => z x (by simp [hx])))]
    · rw [if_neg hm, if_neg (fun z => hm (z t (by simp)))]
      rfl
theorem print_f (l : List S25) (hl : l.length ≤ 8192) (hz : ∀ z ∈ l, z.f1.size ≤ 134217728) : lex_Print.f l = some (printR l) := by
  unfold lex_Print.f printR
  rw [if_pos (by omega), print_go l [] hz (by simp; omega)]
  rfl
/-- The chapter's example. -/
def sample : List UInt8 := [115, 101, 116, 32, 110, 111, 100, 101, 32, 61, 32, 36, 104, 111, 115, 116, 59, 32, 35, 32, 97, 32, 114, 101, 109, 97, 114, 107]
theorem sample_spl : spl 4096 sample 1 = ([(1, [115, 101, 116], 1), (1, [110, 111, 100, 101], 1), (5, [61], 1), (3, [104, 111, 115, 116], 1), (5, [59], 1)], none) := by
  have hs : ∀ l : List UInt8, tok l = tok l := fun _ => rfl
  decide +kernel
theorem works_ev : Ev (fun k => gonglaw14_works.f k) true := by
  refine Ev.of (k := 10) (fun k => gonglaw14_works.mono k) ?_
  unfold gonglaw14_works.f
  rw [split_f]
  simp only [Option.bind_some]
  rw [show splitR (⟨#[115, 101, 116, 32, 110, 111, 100, 101, 32, 61, 32, 36, 104, 111, 115, 116, 59, 32, 35, 32, 97, 32, 114, 101, 109, 97, 114, 107]⟩ : ByteArray).data.toList = splR [] (spl 4096 sample 1) from rfl, sample_spl]
  decide +kernel
end Go.Proofs.YtnghebedingjaaaDoor.Lx
end
/-! LxA -/
section
/- Tokens alike but for their lines. -/
namespace Go.Proofs.YtnghebedingjaaaDoor.Lx
open Go Go.RowKit Go.Proofs.YtnghebedingjaaaDoor.Px Go.Proofs.YtnghebedingjaaaDoorW.PrintWords Go.Proofs.YtnghebedingjaaaDoor.Str
theorem rd_at (a : List S25) (i : Nat) (h : i < a.length) : rd_T25 a (i : Int) = a[i] := by
  unfold rd_T25
  rw [Int.toNat_natCast, List.getD_eq_getElem?_getD, List.getElem?_eq_getElem h, Option.getD_some]
theorem alike_l0 (a b : List S25) (h : a.map kt = b.map kt) (ha : a.length ≤ 1073741824) (d : Nat) : ∀ i : Nat, i + d = a.length → Ev (fun k => gonglaw14_alike.l0 k a b (a.length : Int) (i : Int)) true := by
  have hl := congrArg List.length h
  rw [List.length_map, List.length_map] at hl
  induction d with
  | zero =>
    intro i hi
    refine Ev.step (f := fun _ => some true) (fun k => ?_) (Ev.now _)
    simp only [gonglaw14_alike.l0]
    rw [if_neg (by omega)]
  | succ d ih =>
    intro i hi
    have h1 : i < a.length := by omega
    have h2 : i < b.length := by omega
    have hk : kt a[i] = kt b[i] := by
      have e : (a.map kt)[i]'(by rw [List.length_map]; exact h1) = (b.map kt)[i]'(by rw [List.length_map]; exact h2) := by simp only [h]
      simpa using e
    unfold kt at hk
    simp only [Prod.mk.injEq] at hk
    refine Ev.step (fun k => ?_) (ih (i + 1) (by omega))
    simp only [gonglaw14_alike.l0]
    rw [if_pos (by omega), if_pos (by omega), if_pos (by omega), if_pos (by omega), rd_at a i h1, rd_at b i h2, if_pos hk.1, if_pos (by rw [toList_L, toList_L]; exact hk.2), wrap64_id (by omega) (by omega)]
    rfl
theorem alike_ev (a b : List S25) (h : a.map kt = b.map kt) (ha : a.length ≤ 1073741824) : Ev (fun k => gonglaw14_alike.f k a b) true := by
  have hl := congrArg List.length h
  rw [List.length_map, List.length_map] at hl
  unfold gonglaw14_alike.f
  refine Ev.congr (fun k => ?_) (alike_l0 a b h ha a.length 0 (by omega))
  rw [if_pos (by omega)]
  rfl
theorem kt_mk (L : List T) : (L.map mk).map kt = bare L := by
  rw [List.map_map]
  rfl
end Go.Proofs.YtnghebedingjaaaDoor.Lx
end
/-! Bel -/
section
/- A number from 0 on, below n: the remainder. -/
namespace Go.Proofs.YtnghebedingjaaaDoor.Bel
open Go Go.RowKit Go.Proofs.YtnghebedingjaaaDoor.Px Go.Proofs.YtnghebedingjaaaDoorW.PrintWords Go.Proofs.YtnghebedingjaaaDoor.Str
theorem below_f (x n : Int) (h0 : 0 < n) (h1 : n ≤ 4611686018427387904) : gongbook_Below.f x n = some (x % n) := by
  unfold gongbook_Below.f
  rw [if_neg (by omega)]
  have hr := Int.tmod_lt_of_pos x h0
  have hl : -n < Int.tmod x n := by
    have := Int.lt_tmod_of_pos x h0
    omega
  rw [wrap64_id (by omega) (by omega)]
  congr 1
  have e : (Int.tmod x n + n).tmod n = (Int.tmod x n + n) % n := Int.tmod_eq_emod_of_nonneg (by omega)
  rw [e, Int.add_emod_right]
  rcases Int.le_total 0 x with hx | hx
  · rw [Int.tmod_eq_emod_of_nonneg hx, Int.emod_emod_of_dvd _ (Int.dvd_refl n)]
  · have : Int.tmod x n = x - n * Int.tdiv x n := by have := Int.mul_tdiv_add_tmod x n; omega
    rw [this, Int.sub_mul_emod_self_left]
end Go.Proofs.YtnghebedingjaaaDoor.Bel
end
/-! DLexBlanks -/
section
/- The statement LexBlanks over whole numbers and lists alone. -/
namespace Go.Proofs.YtnghebedingjaaaDoor.Px
open Go.RowKit
def gonglaw14_LexBlanks.PureL : Prop := ∀ (l0 : List ByteArray) (l1 : List Int), (∀ z ∈ l0, z.size ≤ 140737488351232) → l0.length * 16 ≤ 140737488351232 → (∀ z ∈ l1, (Lit.int .i64 z).wf = true) → l1.length * 8 ≤ 140737488351232 → ∃ k, gonglaw14_LexBlanks.f k l0 l1 = some true
end Go.Proofs.YtnghebedingjaaaDoor.Px
end
/-! PureLexBlanks -/
section
/- The statement LexBlanks over whole numbers and lists alone. -/
namespace Go.Proofs.YtnghebedingjaaaDoor.Lx
open Go Go.RowKit Go.Proofs.YtnghebedingjaaaDoor.Px Go.Proofs.YtnghebedingjaaaDoorW.PrintWords Go.Proofs.YtnghebedingjaaaDoor.Str
def bl : Nat → List UInt8
  | 0 => [32]
  | 1 => [10]
  | 2 => [9, 13, 10, 32]
  | 3 => [32, 35, 32, 114, 101, 109, 97, 114, 107, 32, 34, 32, 123, 32, 10]
  | _ => [35, 10, 35, 10]
theorem bl_skips (n : Nat) : skips (bl n) := by
  intro r ln
  match n with
  | 0 => simp [bl, skip, blank, cnt]
  | 1 => simp [bl, skip, blank, cnt]
  | 2 => simp [bl, skip, blank, cnt]
  | 3 => simp [bl, skip, blank, cnt]
  | _ + 4 => simp [bl, skip, blank, cnt]; congr 1; omega

def blA (_ : Nat) : List UInt8 := [32]
theorem blA_skips (n : Nat) : skips (blA n) := skips_blank (b := 32) (by decide)
theorem gapped_snoc (ws : List (List UInt8 × Nat)) (b : Nat → List UInt8) (w : List UInt8) (n : Nat) : gapped (ws ++ [(w, n)]) b = gapped ws b ++ (quote w ++ b n ++ [59] ++ b n) := by
  induction ws with
  | nil => simp [gapped]
  | cons x ws ih => obtain ⟨v, m⟩ := x; simp [gapped, ih]
theorem bl_length (n : Nat) : (bl n).length ≤ 15 := by
  unfold bl
  split <;> simp
theorem quote_le (w : List UInt8) (h : w.length ≤ 50) : (quote w).length ≤ 202 ∧ 2 ≤ (quote w).length := by
  have := flat_length w
  rw [quote_length]
  omega
theorem gapped_length (b : Nat → List UInt8) (hb : ∀ n, (b n).length ≤ 15) (ws : List (List UInt8 × Nat)) (h : ∀ x ∈ ws, x.1.length ≤ 50) : (gapped ws b).length ≤ 240 * ws.length := by
  induction ws with
  | nil => simp [gapped]
  | cons x ws ih =>
    obtain ⟨w, n⟩ := x
    have h1 := ih (fun x hx => h x (by simp [hx]))
    have h2 := quote_le w (h (w, n) (by simp))
    have h3 := hb n
    simp only [gapped, List.length_append, List.length_cons, List.length_nil]
    omega
theorem made_length (b : Nat → List UInt8) (ws : List (List UInt8 × Nat)) : ∀ ln, (made ws b ln).length = 2 * ws.length := by
  induction ws with
  | nil => intro ln; rfl
  | cons x ws ih => obtain ⟨w, n⟩ := x; intro ln; simp only [made, List.length_cons, ih]; omega
theorem made_bare (b c : Nat → List UInt8) (ws : List (List UInt8 × Nat)) : ∀ ln lm, bare (made ws b ln) = bare (made ws c lm) := by
  induction ws with
  | nil => intro ln lm; rfl
  | cons x ws ih =>
    obtain ⟨w, n⟩ := x
    intro ln lm
    have := ih (ln + cnt (b n) + cnt (b n)) (lm + cnt (c n) + cnt (c n))
    unfold bare at this ⊢
    simp only [made, List.map_cons, this]
theorem made_range (b : Nat → List UInt8) (ws : List (List UInt8 × Nat)) : ∀ (ln : Int), ∀ x ∈ made ws b ln, ln ≤ x.2.2 ∧ x.2.2 ≤ ln + cnt (gapped ws b) := by
  induction ws with
  | nil => intro ln x hx; cases hx
  | cons y ws ih =>
    obtain ⟨w, n⟩ := y
    intro ln x hx
    simp only [made, List.mem_cons] at hx
    simp only [gapped, cnt_app]
    rcases hx with rfl | rfl | hx
    · constructor <;> simp only <;> omega
    · constructor <;> simp only <;> omega
    · have := ih _ x hx
      constructor <;> omega
theorem made_sorted (b : Nat → List UInt8) (ws : List (List UInt8 × Nat)) : ∀ (ln : Int), (made ws b ln).Pairwise (fun x y => x.2.2 ≤ y.2.2) := by
  induction ws with
  | nil => intro ln; exact List.Pairwise.nil
  | cons y ws ih =>
    obtain ⟨w, n⟩ := y
    intro ln
    have hr := made_range b ws (ln + cnt (b n) + cnt (b n))
    simp only [made]
    refine List.Pairwise.cons (fun x hx => ?_) (List.Pairwise.cons (fun x hx => ?_) (ih _))
    · rw [List.mem_cons] at hx
      rcases hx with rfl | hx
      · simp only; omega
      · have := (hr x hx).1; simp only; omega
    · have := (hr x hx).1; simp only; omega
theorem made_one (ws : List (List UInt8 × Nat)) : ∀ x ∈ made ws blA 1, x.2.2 = 1 := by
  have h : ∀ (ln : Int), ∀ x ∈ made ws blA ln, x.2.2 = ln := by
    induction ws with
    | nil => intro ln x hx; cases hx
    | cons y ws ih =>
      obtain ⟨w, n⟩ := y
      intro ln x hx
      have hz : cnt (blA n) = 0 := rfl
      simp only [made, List.mem_cons, hz] at hx
      rcases hx with rfl | rfl | hx
      · rfl
      · simp
      · have := ih _ x hx
        rw [this]
        simp
  exact h 1
theorem made_even (b : Nat → List UInt8) (ws : List (List UInt8 × Nat)) : ∀ (ln : Int) (j : Nat) (x : List UInt8 × Nat), ws[j]? = some x → ∃ l, (made ws b ln)[2 * j]? = some (4, x.1, l) := by
  induction ws with
  | nil => intro ln j x h; simp at h
  | cons y ws ih =>
    obtain ⟨w, n⟩ := y
    intro ln j x h
    cases j with
    | zero =>
      simp only [List.getElem?_cons_zero, Option.some.injEq] at h
      subst h
      exact ⟨ln, rfl⟩
    | succ j =>
      simp only [List.getElem?_cons_succ] at h
      obtain ⟨l, hl⟩ := ih (ln + cnt (b n) + cnt (b n)) j x h
      refine ⟨l, ?_⟩
      rw [show 2 * (j + 1) = 2 * j + 1 + 1 by omega]
      simp only [made, List.getElem?_cons_succ]
      exact hl
section
variable (ws : List ByteArray) (bs : List Int)
def gap (i : Nat) : Nat := if i < bs.length then (bs.getD i 0 % 5).toNat else 0
def cut50 (s : ByteArray) : List UInt8 := s.data.toList.take 50
def item (i : Nat) : List UInt8 × Nat := (cut50 (ws.getD i ByteArray.empty), gap bs i)
def items (i : Nat) : List (List UInt8 × Nat) := (List.range i).map (item ws bs)
theorem items_succ (i : Nat) : items ws bs (i + 1) = items ws bs i ++ [item ws bs i] := by
  unfold items
  rw [List.range_succ, List.map_append]
  rfl
theorem items_len (i : Nat) : (items ws bs i).length = i := by simp [items]
theorem items_short (i : Nat) : ∀ x ∈ items ws bs i, x.1.length ≤ 50 := by
  intro x hx
  unfold items at hx
  obtain ⟨j, _, rfl⟩ := List.mem_map.1 hx
  unfold item cut50
  rw [List.length_take]
  omega
theorem gap_lt (i : Nat) : gap bs i < 5 := by
  unfold gap
  split
  · have h0 := Int.emod_nonneg (bs.getD i 0) (show (5 : Int) ≠ 0 by decide)
    have h1 := Int.emod_lt_of_pos (bs.getD i 0) (show (0 : Int) < 5 by decide)
    omega
  · omega
end
theorem cut50_f (s : ByteArray) : gongbook_Cut.f s 50 = some (ofL (cut50 s)) := by
  unfold gongbook_Cut.f cut50
  by_cases h : (s.size : Int) > 50
  · rw [if_pos h, if_pos (by decide), if_pos (by omega)]
    congr 1
    apply ext
    rw [pre_L, ofL_L]
    rfl
  · rw [if_neg h, List.take_of_length_le (by rw [← size_L]; omega), ofL_of]
def blanks : List ByteArray := [(⟨#[32]⟩ : ByteArray), (⟨#[10]⟩ : ByteArray), (⟨#[9, 13, 10, 32]⟩ : ByteArray), (⟨#[32, 35, 32, 114, 101, 109, 97, 114, 107, 32, 34, 32, 123, 32, 10]⟩ : ByteArray), (⟨#[35, 10, 35, 10]⟩ : ByteArray)]
theorem blanks_at (n : Nat) (h : n < 5) : rdOf ByteArray.empty blanks (n : Int) = ofL (bl n) := by
  unfold rdOf
  rw [Int.toNat_natCast]
  match n, h with
  | 0, _ => rfl
  | 1, _ => rfl
  | 2, _ => rfl
  | 3, _ => rfl
  | 4, _ => rfl
theorem rd_text (ws : List ByteArray) (i : Nat) : rdOf ByteArray.empty ws (i : Int) = ws.getD i ByteArray.empty := by
  unfold rdOf
  rw [Int.toNat_natCast]
theorem rd_mk (L : List T) (i : Nat) (h : i < L.length) : rd_T25 (L.map mk) (i : Int) = mk L[i] := by
  unfold rd_T25
  rw [Int.toNat_natCast, List.getD_eq_getElem?_getD, List.getElem?_eq_getElem (by rw [List.length_map]; exact h), Option.getD_some, List.getElem_map]
theorem wr_ (i : Nat) (h : i ≤ 100000) : wrap64 ((i : Int) + 1) = ((i + 1 : Nat) : Int) := wrap64_id (by omega) (by omega)
theorem wr1_ (i : Nat) (h : i ≤ 100000) : wrap64 (((i + 1 : Nat) : Int) - 1) = (i : Int) := by rw [wrap64_id (by omega) (by omega)]; omega
theorem wr2_ (i : Nat) (h : i ≤ 100000) : wrap64 (1 + (i : Int)) = 1 + (i : Int) := wrap64_id (by omega) (by omega)
theorem wr3_ (i : Nat) (h : i ≤ 100000) : wrap64 (2 * (i : Int)) = ((2 * i : Nat) : Int) := by rw [wrap64_id (by omega) (by omega)]; omega
theorem tm_ (i : Nat) : Int.tmod (i : Int) 2 = ((i % 2 : Nat) : Int) := by rw [Int.tmod_eq_emod_of_nonneg (by omega)]; omega
theorem td_ (i : Nat) (h : i ≤ 100000) : wrap64 (Int.tdiv (i : Int) 2) = ((i / 2 : Nat) : Int) := by rw [Int.tdiv_eq_ediv_of_nonneg (by omega), wrap64_id (by omega) (by omega)]; omega
section
variable (ws : List ByteArray) (bs : List Int) (hw : ws.length ≤ 100)
include hw
theorem blanks_l1 (B : ByteArray) (hB : B = ofL (bl 4 ++ gapped (items ws bs ws.length) bl)) (d : Nat) : ∀ i : Nat, i + d = 2 * ws.length →
    Ev (fun k => gonglaw14_LexBlanks.l1 k ws B ((made (items ws bs ws.length) blA 1).map mk) ((made (items ws bs ws.length) bl 3).map mk) ((2 * ws.length : Nat) : Int) (i : Int)) true := by
  have l1 : (made (items ws bs ws.length) blA 1).length = 2 * ws.length := by rw [made_length, items_len]
  have l2 : (made (items ws bs ws.length) bl 3).length = 2 * ws.length := by rw [made_length, items_len]
  have m1 : ((made (items ws bs ws.length) blA 1).map mk).length = 2 * ws.length := by rw [List.length_map, l1]
  have m2 : ((made (items ws bs ws.length) bl 3).map mk).length = 2 * ws.length := by rw [List.length_map, l2]
  have hcB : cnt B.data.toList = 2 + cnt (gapped (items ws bs ws.length) bl) := by rw [hB, ofL_L, cnt_app]; rfl
  have hcl := cnt_le B.data.toList
  have hBl : B.data.toList.length ≤ 24004 := by
    rw [hB, ofL_L, List.length_append]
    have := gapped_length bl bl_length (items ws bs ws.length) (items_short ws bs _)
    rw [items_len] at this
    have h4 : (bl 4).length = 4 := rfl
    omega
  have hone := made_one (items ws bs ws.length)
  have hrange := made_range bl (items ws bs ws.length) 3
  have hsort := List.pairwise_iff_getElem.1 (made_sorted bl (items ws bs ws.length) 3)
  have heven := fun j (hj : j < ws.length) => made_even blA (items ws bs ws.length) 1 j (item ws bs j) (by unfold items; rw [List.getElem?_map, List.getElem?_range hj]; rfl)
  generalize made (items ws bs ws.length) blA 1 = L at l1 m1 hone heven
  generalize made (items ws bs ws.length) bl 3 = K at l2 m2 hrange hsort
  induction d with
  | zero =>
    intro i hi
    refine Ev.step (f := fun _ => some true) (fun k => ?_) (Ev.now _)
    simp only [gonglaw14_LexBlanks.l1]
    rw [if_neg (by omega)]
  | succ d ih =>
    intro i hi
    have i1 : i < L.length := by omega
    have i2 : i < K.length := by omega
    have e1 : (mk L[i]).f2 = 1 := hone _ (List.getElem_mem i1)
    have e2 := hrange _ (List.getElem_mem i2)
    have e3 : (mk K[i]).f2 = K[i].2.2 := rfl
    have H : Ev (fun k => gonglaw14_LexBlanks.j3 k ws B (L.map mk) (K.map mk) (i : Int) ((2 * ws.length : Nat) : Int) (i : Int) false) true := by
      refine Ev.step (fun k => ?_) (ih (i + 1) (by omega))
      simp only [gonglaw14_LexBlanks.j3]
      rw [if_neg (by decide), wr_ i (by omega), tm_ i, td_ i (by omega)]
      by_cases h0 : i % 2 = 0
      · have hj : i / 2 < ws.length := by omega
        obtain ⟨l, hl⟩ := heven (i / 2) hj
        rw [show 2 * (i / 2) = i by omega, List.getElem?_eq_getElem i1, Option.some.injEq] at hl
        rw [if_pos (by omega), if_pos (by omega), if_pos (by omega), rd_mk L i i1, hl]
        rw [if_pos (by rfl), if_pos (by omega), if_pos (by omega), cut50_f, rd_text]
        simp only [Option.bind_some]
        rw [if_pos (by rfl)]
      · rw [if_neg (by omega)]
    have hcnt : Ev (fun k => (strings_Count.f B (⟨#[10]⟩ : ByteArray)).bind fun t320 => gonglaw14_LexBlanks.j3 k ws B (L.map mk) (K.map mk) (i : Int) ((2 * ws.length : Nat) : Int) (i : Int) (decide (K[i].2.2 > wrap64 (1 + t320)))) true := by
      refine Ev.congr (fun k => ?_) H
      rw [count_f]
      simp only [Option.bind_some]
      rw [wr2_ _ (by omega), decide_eq_false (by omega)]
    by_cases h0 : i = 0
    · subst h0
      refine Ev.step (fun k => ?_) hcnt
      simp only [gonglaw14_LexBlanks.l1]
      rw [if_pos (by omega), if_pos (by omega), if_pos (by omega), rd_mk L 0 i1, rd_mk K 0 i2, e1, if_pos rfl, if_neg (by omega), if_pos (by omega), e3, if_neg (by omega)]
    · obtain ⟨p, rfl⟩ : ∃ p, i = p + 1 := ⟨i - 1, by omega⟩
      have i3 : p < K.length := by omega
      have e4 := hsort p (p + 1) i3 i2 (by omega)
      have e5 : (mk K[p]).f2 = K[p].2.2 := rfl
      refine Ev.step (fun k => ?_) hcnt
      simp only [gonglaw14_LexBlanks.l1]
      have w1 := wr1_ p (by omega)
      rw [w1, if_pos (by omega), if_pos (by omega), if_pos (by omega), rd_mk L (p + 1) i1, rd_mk K (p + 1) i2, rd_mk K p i3, e1, if_pos rfl, if_pos (by omega), if_pos (by omega), if_pos (by omega), if_pos (by omega), e3, e5, if_neg (by omega), if_neg (by omega)]
theorem blanks_l0 (d : Nat) : ∀ i : Nat, i + d = ws.length →
    Ev (fun k => gonglaw14_LexBlanks.l0 k ws bs blanks (ofL (gapped (items ws bs i) blA)) (ofL (bl 4 ++ gapped (items ws bs i) bl)) ws (ws.length : Int) (i : Int)) true := by
  have gA := fun i => gapped_length blA (fun n => by show 1 ≤ 15; decide) (items ws bs i) (items_short ws bs i)
  have gB := fun i => gapped_length bl bl_length (items ws bs i) (items_short ws bs i)
  induction d with
  | zero =>
    intro i hi
    obtain rfl : i = ws.length := by omega
    have a1 := gA ws.length
    have b1 := gB ws.length
    rw [items_len] at a1 b1
    have h4 : (bl 4).length = 4 := rfl
    have sA : splitR (ofL (gapped (items ws bs ws.length) blA)).data.toList = ((made (items ws bs ws.length) blA 1).map mk, 0, 0) := by
      unfold splitR
      rw [ofL_L, if_neg (by omega), spl_gapped blA blA_skips (items ws bs ws.length) 4096 1 (by rw [items_len]; omega)]
      simp [splR]
    have sB : splitR (ofL (bl 4 ++ gapped (items ws bs ws.length) bl)).data.toList = ((made (items ws bs ws.length) bl 3).map mk, 0, 0) := by
      unfold splitR
      rw [ofL_L, if_neg (by rw [List.length_append]; omega), spl_skips (bl_skips 4), spl_gapped bl bl_skips (items ws bs ws.length) 4096 _ (by rw [items_len]; omega)]
      simp only [splR, List.nil_append]
      rfl
    have hal := alike_ev ((made (items ws bs ws.length) blA 1).map mk) ((made (items ws bs ws.length) bl 3).map mk) (by rw [kt_mk, kt_mk]; exact made_bare _ _ _ _ _) (by rw [List.length_map, made_length, items_len]; omega)
    have hfin := blanks_l1 ws bs hw (ofL (bl 4 ++ gapped (items ws bs ws.length) bl)) rfl (2 * ws.length) 0 (by omega)
    refine Ev.step (f := fun k => (gonglaw14_alike.f k ((made (items ws bs ws.length) blA 1).map mk) ((made (items ws bs ws.length) bl 3).map mk)).bind fun t311 => (if t311 = true then (gonglaw14_LexBlanks.j1 k ws (ofL (bl 4 ++ gapped (items ws bs ws.length) bl)) ((made (items ws bs ws.length) blA 1).map mk) ((made (items ws bs ws.length) bl 3).map mk) false) else (gonglaw14_LexBlanks.j1 k ws (ofL (bl 4 ++ gapped (items ws bs ws.length) bl)) ((made (items ws bs ws.length) blA 1).map mk) ((made (items ws bs ws.length) bl 3).map mk) true))) (fun k => ?_) (Ev.bind hal ?_)
    · simp only [gonglaw14_LexBlanks.l0]
      rw [if_neg (by omega), split_f, split_f, sA, sB]
      simp only [Option.bind_some, if_true]
      rw [show ((((made (items ws bs ws.length) blA 1).map mk).length : Int) != wrap64 (2 * (ws.length : Int))) = false from by
        rw [bne_eq_false_iff_eq, List.length_map, made_length, items_len, wr3_ _ (by omega)]]
    · simp only [if_true]
      refine Ev.step (fun k => ?_) hfin
      simp only [gonglaw14_LexBlanks.j1]
      rw [if_neg (by decide), List.length_map, made_length, items_len]
      rfl
  | succ d ih =>
    intro i hi
    have hlt : i < ws.length := by omega
    have a1 := gA i
    have c1 := gB i
    rw [items_len] at a1 c1
    have h4 : (bl 4).length = 4 := rfl
    have h := ih (i + 1) (by omega)
    rw [items_succ] at h
    have hit : item ws bs i = (cut50 (ws.getD i ByteArray.empty), gap bs i) := rfl
    rw [hit, gapped_snoc, gapped_snoc] at h
    have hg5 := gap_lt bs i
    have hcl : (cut50 (ws.getD i ByteArray.empty)).length ≤ 50 := by unfold cut50; rw [List.length_take]; omega
    have hq := quote_le _ hcl
    have hbl := bl_length (gap bs i)
    have hqf := quote_f (ofL (cut50 (ws.getD i ByteArray.empty))) (by rw [ofL_size]; omega)
    rw [ofL_L] at hqf
    have hcf := cut50_f (ws.getD i ByteArray.empty)
    generalize cut50 (ws.getD i ByteArray.empty) = w at h hcl hq hqf hcf
    have hat := blanks_at (gap bs i) hg5
    have zE : (ofL (bl (gap bs i))).size ≤ 15 := by rw [ofL_size]; exact hbl
    have zq : (ofL (quote w)).size ≤ 202 := by rw [ofL_size]; omega
    have zA : (ofL (gapped (items ws bs i) blA)).size ≤ 24000 := by rw [ofL_size]; omega
    have zB : (ofL (bl 4 ++ gapped (items ws bs i) bl)).size ≤ 24004 := by rw [ofL_size, List.length_append]; omega
    have z3 : (⟨#[32, 59, 32]⟩ : ByteArray).size = 3 := rfl
    have z1 : (⟨#[59]⟩ : ByteArray).size = 1 := rfl
    have eA : ofL (gapped (items ws bs i) blA) ++ (ofL (quote w) ++ (⟨#[32, 59, 32]⟩ : ByteArray)) = ofL (gapped (items ws bs i) blA ++ (quote w ++ blA (gap bs i) ++ [59] ++ blA (gap bs i))) := by
      apply ext
      rw [app_L, app_L, ofL_L, ofL_L, ofL_L]
      simp [blA]
    have eB : ofL (bl 4 ++ gapped (items ws bs i) bl) ++ (((ofL (quote w) ++ ofL (bl (gap bs i))) ++ (⟨#[59]⟩ : ByteArray)) ++ ofL (bl (gap bs i))) = ofL (bl 4 ++ (gapped (items ws bs i) bl ++ (quote w ++ bl (gap bs i) ++ [59] ++ bl (gap bs i)))) := by
      apply ext
      rw [app_L, app_L, app_L, app_L, ofL_L, ofL_L, ofL_L, ofL_L]
      simp
    have b1 : (ofL (quote w)).size + 3 ≤ 9223372036854775807 := by omega
    have b2 : (ofL (gapped (items ws bs i) blA)).size + (ofL (quote w) ++ (⟨#[32, 59, 32]⟩ : ByteArray)).size ≤ 9223372036854775807 := by rw [ByteArray.size_append]; omega
    have b3 : (ofL (quote w)).size + (ofL (bl (gap bs i))).size ≤ 9223372036854775807 := by omega
    have b4 : (ofL (quote w) ++ ofL (bl (gap bs i))).size + 1 ≤ 9223372036854775807 := by rw [ByteArray.size_append]; omega
    have b5 : ((ofL (quote w) ++ ofL (bl (gap bs i))) ++ (⟨#[59]⟩ : ByteArray)).size + (ofL (bl (gap bs i))).size ≤ 9223372036854775807 := by rw [ByteArray.size_append, ByteArray.size_append]; omega
    have b6 : (ofL (bl 4 ++ gapped (items ws bs i) bl)).size + (((ofL (quote w) ++ ofL (bl (gap bs i))) ++ (⟨#[59]⟩ : ByteArray)) ++ ofL (bl (gap bs i))).size ≤ 9223372036854775807 := by rw [ByteArray.size_append, ByteArray.size_append, ByteArray.size_append]; omega
    have B1 := Lib.hid b1
    have B2 := Lib.hid b2
    have B3 := Lib.hid b3
    have B4 := Lib.hid b4
    have B5 := Lib.hid b5
    have B6 := Lib.hid b6
    clear b1 b2 b3 b4 b5 b6 zA zB zE zq z1 z3 a1 c1 h4 hbl hq gA gB
    have hlen : blanks.length = 5 := rfl
    have w1 := wr_ i (by omega)
    rw [← eA, ← eB] at h
    refine Ev.step (fun k => ?_) h
    simp only [gonglaw14_LexBlanks.l0]
    rw [if_pos (by omega), if_pos (by omega), if_pos (by omega), rd_text, hcf]
    simp only [Option.bind_some]
    rw [hqf]
    simp only [Option.bind_some]
    rw [if_pos B1.out, if_pos B2.out]
    by_cases hb : i < bs.length
    · have hbe : gongbook_Below.f (rd bs (i : Int)) 5 = some ((gap bs i : Nat) : Int) := by
        rw [Bel.below_f _ 5 (by decide) (by decide)]
        unfold gap rd
        rw [if_pos hb, Int.toNat_natCast]
        have h0 := Int.emod_nonneg (bs.getD i 0) (show (5 : Int) ≠ 0 by decide)
        congr 1
        omega
      rw [if_pos (by omega), hbe]
      simp only [Option.bind_some]
      rw [if_pos (by omega), if_pos (by omega), hat, if_pos B3.out, if_pos B4.out, if_pos B5.out, if_pos B6.out, w1]
    · have hg0 : gap bs i = 0 := by unfold gap; rw [if_neg hb]
      have b3 := B3.out
      have b4 := B4.out
      have b5 := B5.out
      have b6 := B6.out
      rw [hg0] at hat b3 b4 b5 b6
      have B3 := Lib.hid b3
      have B4 := Lib.hid b4
      have B5 := Lib.hid b5
      have B6 := Lib.hid b6
      clear b3 b4 b5 b6
      rw [if_neg (by omega), if_pos (by omega)]
      rw [show ((0 : Nat) : Int) = 0 from rfl] at hat
      rw [hat, if_pos B3.out, if_pos B4.out, if_pos B5.out, if_pos B6.out, w1, hg0]
end
end Go.Proofs.YtnghebedingjaaaDoor.Lx
namespace Go.Proofs.YtnghebedingjaaaDoor.Pure
open Go Go.RowKit Go.Proofs.YtnghebedingjaaaDoor.Px Go.Proofs.YtnghebedingjaaaDoorW.PrintWords Go.Proofs.YtnghebedingjaaaDoor.Str Go.Proofs.YtnghebedingjaaaDoor.Lx
theorem LexBlanks : gonglaw14_LexBlanks.PureL := by
  intro ws bs _ _ _ _
  apply Ev.rounds
  unfold gonglaw14_LexBlanks.f
  refine Ev.bind works_ev ?_
  simp only [if_true]
  by_cases hw : (ws.length : Int) > 100
  · exact Ev.congr (fun k => if_pos hw) (Ev.now _)
  · have h := blanks_l0 ws bs (by omega) ws.length 0 (by omega)
    refine Ev.congr (fun k => ?_) h
    rw [if_neg hw]
    simp only [Option.bind_some]
    rw [if_pos (by decide)]
    rfl
end Go.Proofs.YtnghebedingjaaaDoor.Pure
end
/-! Opens -/
section
/- What came in and can be read as data is what the print's kinds say: whole numbers, bools, texts, structs, slices, in one another. -/
namespace Go.Proofs.YtnghebedingjaaaDoor.Open
open Go Go.RowKit Go.Proofs.YtnghebedingjaaaDoorW.PrintWords

/-- R: what each text, and each slice's places, weigh at most. -/
def Opens (R : Nat) {α : Type} (d : Kd α) (P : Program) (t : TypeId) (WF : α → Prop) : Prop :=
  P.cellsOf t = d.sz ∧ ∀ (H : Type) (enc : TypeId × Value → H) (W : World) (base : Nat) (sp : Nat → Bool) (held : Bool) (fuel : Nat) (cs : List Value) (y : DataW H) (p : List MemPlace),
    DataW.trod enc P W base sp held fuel t cs = some (y, p) → (∀ n ∈ y.weights P t, n ≤ R) → ∃ x, d.K W x cs ∧ WF x

theorem int {R : Nat} {P : Program} {t : TypeId} {k : IntKind} (h : P.underlying t = some (.int k)) (hc : P.cellsOf t = 1) : Opens R (Kd.int k) P t (fun n => (Lit.int k n).wf = true) := by
  refine ⟨hc, fun H enc W base sp held fuel cs y p ht _ => ?_⟩
  obtain ⟨n, rfl, _, hw⟩ := DataW.trod_int h ht
  exact ⟨n, rfl, hw⟩
theorem bool {R : Nat} {P : Program} {t : TypeId} (h : P.underlying t = some .bool) (hc : P.cellsOf t = 1) : Opens R Kd.bool P t (fun _ => True) := by
  refine ⟨hc, fun H enc W base sp held fuel cs y p ht _ => ?_⟩
  cases fuel with
  | zero => simp [DataW.trod] at ht
  | succ fuel =>
    simp only [DataW.trod, h] at ht
    split at ht <;> first | (rename_i h1 h2; cases h1) | skip
    all_goals first | (cases ht; done) | skip
    all_goals simp_all
    · exact .inl rfl
    · exact .inr rfl
theorem string {R : Nat} {P : Program} {t : TypeId} (h : P.underlying t = some .string) (hc : P.cellsOf t = 1) : Opens R Kd.string P t (fun s => s.size ≤ R) := by
  refine ⟨hc, fun H enc W base sp held fuel cs y p ht hw => ?_⟩
  obtain ⟨s, rfl, he, hs⟩ := DataW.trod_string h ht
  obtain ⟨rfl, rfl⟩ := Prod.mk.inj he
  refine ⟨s, rfl, ?_⟩
  have := hw s.data.toList.length (by simp [DataW.weights])
  simpa using this

theorem choose_list {α : Type} {Q : Nat → α → Prop} : ∀ n, (∀ i, i < n → ∃ x, Q i x) → ∃ l : List α, l.length = n ∧ ∀ i x, l[i]? = some x → Q i x
  | 0, _ => ⟨[], rfl, fun i x h => by simp at h⟩
  | n + 1, h => by
    obtain ⟨l, hl, hq⟩ := choose_list n (fun i hi => h i (by omega))
    obtain ⟨x, hx⟩ := h n (by omega)
    refine ⟨l ++ [x], by simp [hl], fun i y hy => ?_⟩
    rcases Nat.lt_trichotomy i n with hlt | rfl | hgt
    · rw [List.getElem?_append_left (by omega)] at hy
      exact hq i y hy
    · rw [List.getElem?_append_right (by omega), hl] at hy
      simp at hy
      subst hy
      exact hx
    · rw [List.getElem?_append_right (by omega)] at hy
      rw [List.getElem?_eq_none (by simp; omega)] at hy
      cases hy

theorem weights_all {H : Type} {P : Program} {e : TypeId} : ∀ {l : List (DataW H)} {i : Nat} {d : DataW H}, l[i]? = some d → ∀ n ∈ d.weights P e, n ∈ DataW.weightsAll P e l
  | x :: l, 0, d, h, n, hn => by
    simp only [List.getElem?_cons_zero, Option.some.injEq] at h
    subst h
    simp only [DataW.weightsAll, List.mem_append]
    exact .inl hn
  | x :: l, i + 1, d, h, n, hn => by
    simp only [List.getElem?_cons_succ] at h
    simp only [DataW.weightsAll, List.mem_append]
    exact .inr (weights_all h n hn)
  | [], _, _, h, _, _ => by simp at h

theorem cells_at {w : World} {base : Nat} {a : Addr} {n : Nat} {cs : List Value} (h : w.cells? base a n = some cs) : cs.length = n ∧ ∀ j u, cs[j]? = some u → w.cell? (a.add j) = some u := by
  unfold World.cells? at h
  split at h
  · have hl := Lib.mapM_length h
    simp at hl
    refine ⟨hl, fun j u hu => ?_⟩
    have hj : j < n := by
      rcases Nat.lt_or_ge j n with h' | h'
      · exact h'
      · rw [List.getElem?_eq_none (by omega)] at hu
        cases hu
    obtain ⟨b, hb, hf⟩ := Lib.mapM_at h j j (by simp [hj])
    rw [hu] at hb
    injection hb with hb
    subst hb
    exact hf
  · cases h

/-- A slice's elements, up to its length. -/
theorem slice_elems {R : Nat} {α : Type} {d : Kd α} {P : Program} {t e : TypeId} {WF : α → Prop} (ht : P.underlying t = some (.slice e)) (hd : Opens R d P e WF)
    {H : Type} {enc : TypeId × Value → H} {W : World} {base : Nat} {sp : Nat → Bool} {held : Bool} {fuel : Nat} {A : Option Addr} {len cap : Nat} {y : DataW H} {p : List MemPlace}
    (h : DataW.trod enc P W base sp held fuel t [.slice A len cap] = some (y, p)) (hw : ∀ n ∈ y.weights P t, n ≤ R) :
    ∃ l : List α, l.length = len ∧ Kd.C d W A len l ∧ len ≤ cap ∧ (∀ x ∈ l, WF x) ∧ len * P.bytesOf e ≤ R := by
  cases fuel with
  | zero => simp [DataW.trod] at h
  | succ fuel =>
    cases A with
    | none =>
      have h' := h
      simp only [DataW.trod, ht] at h'
      split at h' <;> simp_all
      exact Kd.C_nil d W
    | some a =>
      simp only [DataW.trod, ht] at h
      split at h
      · rename_i hb
        obtain ⟨elems, hm, h⟩ := Option.bind_eq_some_iff.1 h
        obtain ⟨rest, hr, h⟩ := Option.map_eq_some_iff.1 h
        simp only [Prod.mk.injEq] at h
        obtain ⟨rfl, rfl⟩ := h
        have hel : elems.length = len := by simpa using Lib.mapM_length hm
        simp only [DataW.weights, ht, List.mem_cons, List.mem_append] at hw
        have hsz := hw _ (.inl rfl)
        simp only [List.length_map, hel] at hsz
        have hex : ∀ i, i < len → ∃ x, (∃ c, c.length = d.sz ∧ d.K W x c ∧ ∀ j u, c[j]? = some u → W.cell? (a.add (i * d.sz + j)) = some u) ∧ WF x := by
          intro i hi
          obtain ⟨b, hb', hf⟩ := Lib.mapM_at hm i i (by simp [hi])
          obtain ⟨c, hc, hf⟩ := Option.bind_eq_some_iff.1 hf
          obtain ⟨hcl, hcell⟩ := cells_at hc
          obtain ⟨yb, pb⟩ := b
          obtain ⟨x, hx, hwf⟩ := hd.2 H enc W base sp held fuel c yb pb hf (fun n hn => hw n (.inr (.inl (weights_all (i := i) (d := yb) (by simp [hb']) n hn))))
          rw [hd.1] at hcell hcl
          exact ⟨x, ⟨c, hcl, hx, fun j u hu => by rw [← hcell j u hu, Addr.add_add]⟩, hwf⟩
        obtain ⟨l, hl, hq⟩ := choose_list len hex
        refine ⟨l, hl, ⟨hl, by have := hb.2; unfold maxLen at this; omega, fun _ => ⟨a, rfl, fun j x hx => (hq j x hx).1⟩⟩, hb.2.1, fun x hx => ?_, ?_⟩
        · obtain ⟨i, hi⟩ := List.mem_iff_getElem?.1 hx
          exact (hq i x hi).2
        · have h1 : len * P.bytesOf e ≤ (len + rest.length) * P.bytesOf e := Nat.mul_le_mul_right _ (by omega)
          omega
      · cases h
theorem slice {R : Nat} {α : Type} {d : Kd α} {P : Program} {t e : TypeId} {WF : α → Prop} (ht : P.underlying t = some (.slice e)) (hd : Opens R d P e WF) (hc : P.cellsOf t = 1) :
    Opens R (Kd.slice e d) P t (fun l => (∀ x ∈ l, WF x) ∧ l.length * P.bytesOf e ≤ R) := by
  refine ⟨hc, fun H enc W base sp held fuel cs y p h hw => ?_⟩
  have hform : ∃ A len cap, cs = [.slice A len cap] := by
    cases fuel with
    | zero => simp [DataW.trod] at h
    | succ fuel =>
      have h' := h
      simp only [DataW.trod, ht] at h'
      split at h' <;> first | exact ⟨_, _, _, rfl⟩ | (simp_all; done) | skip
      all_goals (simp_all)
  obtain ⟨A, len, cap, rfl⟩ := hform
  obtain ⟨l, hl, hC, hcap, hwf, hb⟩ := slice_elems ht hd h hw
  subst hl
  exact ⟨l, ⟨A, cap, rfl, hcap, hC⟩, hwf, hb⟩

/-- A struct's fields from one place on. -/
def Fields (R : Nat) {α : Type} (d : Kd α) (P : Program) (fs : List Field) (o : Nat) (WF : α → Prop) : Prop :=
  ∀ (H : Type) (enc : TypeId × Value → H) (W : World) (base : Nat) (sp : Nat → Bool) (held : Bool) (fuel : Nat) (cs : List Value) (xs : List (DataW H × List MemPlace)), cs.length = o + d.sz →
    (fs.mapM fun f => DataW.trod enc P W base sp held fuel f.type ((cs.drop f.offset).take (P.cellsOf f.type))) = some xs → (∀ n ∈ DataW.weightsEach P (fs.map (·.type)) (xs.map (·.1)), n ≤ R) → ∃ x, d.K W x (cs.drop o) ∧ WF x
theorem field_last {R : Nat} {α : Type} {d : Kd α} {P : Program} {f : Field} {o : Nat} {WF : α → Prop} (ho : f.offset = o) (hd : Opens R d P f.type WF) : Fields R d P [f] o WF := by
  intro H enc W base sp held fuel cs xs hl hm hw
  simp only [List.mapM_cons, List.mapM_nil, Option.bind_eq_bind, Option.bind_eq_some_iff, Option.pure_def, Option.some.injEq] at hm
  obtain ⟨⟨y, p⟩, hy, _, rfl, rfl⟩ := hm
  rw [ho, hd.1, List.take_of_length_le (by simp; omega)] at hy
  exact hd.2 H enc W base sp held fuel _ y p hy (fun n hn => hw n (by simp [DataW.weightsEach, hn]))
theorem field_more {R : Nat} {α β : Type} {d0 : Kd α} {d1 : Kd β} {P : Program} {f : Field} {fs : List Field} {o : Nat} {WF0 : α → Prop} {WF1 : β → Prop} (ho : f.offset = o) (h0 : Opens R d0 P f.type WF0) (h1 : Fields R d1 P fs (o + d0.sz) WF1) :
    Fields R (Kd.pair d0 d1) P (f :: fs) o (fun x => WF0 x.1 ∧ WF1 x.2) := by
  intro H enc W base sp held fuel cs xs hl hm hw
  simp only [List.mapM_cons, Option.bind_eq_bind, Option.bind_eq_some_iff, Option.pure_def, Option.some.injEq] at hm
  obtain ⟨⟨y, p⟩, hy, ys, hys, rfl⟩ := hm
  have hl' : cs.length = (o + d0.sz) + d1.sz := by rw [hl]; show o + (d0.sz + d1.sz) = _; omega
  rw [ho, h0.1] at hy
  obtain ⟨x0, hx0, hw0⟩ := h0.2 H enc W base sp held fuel _ y p hy (fun n hn => hw n (by simp [DataW.weightsEach, hn]))
  obtain ⟨x1, hx1, hw1⟩ := h1 H enc W base sp held fuel cs ys hl' hys (fun n hn => hw n (by simp only [List.map_cons, DataW.weightsEach, List.mem_append]; exact .inr hn))
  refine ⟨(x0, x1), ⟨(cs.drop o).take d0.sz, cs.drop (o + d0.sz), ?_, hx0, hx1⟩, hw0, hw1⟩
  rw [← List.drop_drop, List.take_append_drop]
theorem struct {R : Nat} {α β : Type} {d : Kd α} {P : Program} {t : TypeId} {fs : Array Field} {WF : α → Prop} (ht : P.underlying t = some (.struct fs)) (hc : P.cellsOf t = d.sz) (hf : Fields R d P fs.toList 0 WF) (f : β → α) (g : α → β) (hg : ∀ y, f (g y) = y) :
    Opens R (Kd.iso d f) P t (fun b => WF (f b)) := by
  refine ⟨hc, fun H enc W base sp held fuel cs y p h hw => ?_⟩
  cases fuel with
  | zero => simp [DataW.trod] at h
  | succ fuel =>
    simp only [DataW.trod, ht] at h
    split at h
    · rename_i hl
      obtain ⟨xs, hm, hx⟩ := Option.map_eq_some_iff.1 h
      simp only [Prod.mk.injEq] at hx
      obtain ⟨rfl, rfl⟩ := hx
      obtain ⟨x, hK, hwf⟩ := hf H enc W base sp held fuel cs xs (by omega) hm (fun n hn => hw n (by simpa [DataW.weights, ht] using hn))
      rw [List.drop_zero] at hK
      exact ⟨g x, by show d.K W (f (g x)) cs; rw [hg]; exact hK, by show WF (f (g x)); rw [hg]; exact hwf⟩
    · cases h
/-- An argument that is a slice. -/
theorem slice_arg {R : Nat} {α : Type} {d : Kd α} {P : Program} {t e : TypeId} {WF : α → Prop} (ht : P.underlying t = some (.slice e)) (hd : Opens R d P e WF)
    {H : Type} {enc : TypeId × Value → H} {W : World} {base : Nat} {sp : Nat → Bool} {held : Bool} {A : Option Addr} {len cap : Nat} {y : DataW H} {p : List MemPlace} {ts : List TypeId} {ds : List (DataW H)}
    (h : DataW.Trod enc P W base sp held t (.slice A len cap) y p) (hsz : (DataW.weightsEach P ts ds).all (· ≤ R) = true) {j : Nat} (htj : ts[j]? = some t) (hdj : ds[j]? = some y) :
    ∃ l : List α, len = l.length ∧ Kd.C d W A l.length l ∧ l.length ≤ cap ∧ (∀ x ∈ l, WF x) ∧ l.length * P.bytesOf e ≤ R := by
  obtain ⟨fuel, hf⟩ := h
  have hw : ∀ n ∈ y.weights P t, n ≤ R := fun n hn => by simpa using List.all_eq_true.1 hsz n (DataW.weights_mem_each htj hdj n hn)
  obtain ⟨l, hl, hC, hcap, hwf, hb⟩ := slice_elems ht hd (by simpa [Value.cells] using hf) hw
  subst hl
  exact ⟨l, rfl, hC, hcap, hwf, hb⟩
/-- An argument that is a struct or an array by value. -/
theorem agg_arg {R : Nat} {α : Type} {d : Kd α} {P : Program} {t : TypeId} {WF : α → Prop} (hd : Opens R d P t WF)
    {H : Type} {enc : TypeId × Value → H} {W : World} {base : Nat} {sp : Nat → Bool} {held : Bool} {cs : Array Value} {y : DataW H} {p : List MemPlace} {ts : List TypeId} {ds : List (DataW H)}
    (h : DataW.Trod enc P W base sp held t (.agg cs) y p) (hsz : (DataW.weightsEach P ts ds).all (· ≤ R) = true) {j : Nat} (htj : ts[j]? = some t) (hdj : ds[j]? = some y) :
    ∃ x, d.K W x cs.toList ∧ WF x := by
  obtain ⟨fuel, hf⟩ := h
  have hw : ∀ n ∈ y.weights P t, n ≤ R := fun n hn => by simpa using List.all_eq_true.1 hsz n (DataW.weights_mem_each htj hdj n hn)
  exact hd.2 H enc W base sp held fuel cs.toList y p (by simpa [Value.cells] using hf) hw
theorem okWide_array {P : Program} {w : World} {r : Reach} {base : Nat} {t e : TypeId} {n : Nat} {v : Value} (ht : P.underlying t = some (.array n e)) (h : Value.okWide P w r base t v) : ∃ cs, v = .agg cs ∧ cs.size = P.cellsOf t := by
  simp only [Value.okWide, ht] at h
  obtain ⟨cs, h1, h2, _⟩ := h
  exact ⟨cs, h1, h2⟩
theorem array2 {R : Nat} {α : Type} {d : Kd α} {P : Program} {t e : TypeId} {WF : α → Prop} (ht : P.underlying t = some (.array 2 e)) (hd : Opens R d P e WF) (hc : P.cellsOf t = d.sz + d.sz) :
    Opens R (Kd.pair d d) P t (fun x => WF x.1 ∧ WF x.2) := by
  refine ⟨hc, fun H enc W base sp held fuel cs y p h hw => ?_⟩
  cases fuel with
  | zero => simp [DataW.trod] at h
  | succ n =>
    simp only [DataW.trod, ht] at h
    split at h
    · rename_i hl
      obtain ⟨xs, hm, hx⟩ := Option.map_eq_some_iff.1 h
      simp only [Prod.mk.injEq] at hx
      obtain ⟨rfl, rfl⟩ := hx
      have r2 : List.range 2 = [0, 1] := rfl
      simp only [r2, List.mapM_cons, List.mapM_nil, Option.bind_eq_bind, Option.bind_eq_some_iff, Option.pure_def, Option.some.injEq] at hm
      obtain ⟨⟨y0, p0⟩, h0, ys, ⟨⟨y1, p1⟩, h1, zs, rfl, rfl⟩, rfl⟩ := hm
      rw [hd.1] at h0 h1
      simp only [DataW.weights, ht, List.map_cons, List.map_nil, DataW.weightsAll, List.mem_append] at hw
      obtain ⟨x0, k0, w0⟩ := hd.2 H enc W base sp held n _ y0 p0 h0 (fun m hm => hw m (.inl hm))
      obtain ⟨x1, k1, w1⟩ := hd.2 H enc W base sp held n _ y1 p1 h1 (fun m hm => hw m (.inr (.inl hm)))
      refine ⟨(x0, x1), ⟨_, _, ?_, k0, k1⟩, w0, w1⟩
      rw [Nat.zero_mul, List.drop_zero, Nat.one_mul, List.take_of_length_le (l := cs.drop d.sz) (by rw [List.length_drop]; omega), List.take_append_drop]
    · cases h
end Go.Proofs.YtnghebedingjaaaDoor.Open
end
/-! RLexBlanks -/
section
/- LexBlanks: for every input that the row speaks of the law returns true, and what came in reads as it did; the variables that it lists are tied to the program's text (the card). Condition: each listed variable reads as the program's own initialisers lay it. -/
namespace Go.Proofs.YtnghebedingjaaaDoor.lexBlanks
open Go.ChangeShapes Go.WideShapes Go.ChangeAt Go.RowKit Go.Proofs.YtnghebedingjaaaDoorW.PrintWords
open Go.ChangeMaps (open_string shut_string)
theorem own : ownKnob Tryd.prog.godebug = none := by kernel_rfl
theorem laidOut : laidOutB Tryd.prog = true := by kernel_rfl
def laidL : List (String × DataW Unit) := [("unicode/utf8.acceptRanges", Rows.laid_unicode_utf8_acceptRanges), ("unicode/utf8.first", Rows.laid_unicode_utf8_first)]
/-- The door's own heap meets the condition: three closed facts. -/
theorem door_met (os : Os) (args : Array Value) : laidMetH Tryd.prog laidL ((World.laidAll Tryd.prog os laidL).forCall (fun _ _ => 0) ⟨#[], args, []⟩).memory :=
  by rw [MakeChecks.laidMetH_plain _ _ _ (by kernel_rfl)]; exact laidMet_laidAll _ (by kernel_rfl) (by kernel_rfl)
set_option maxRecDepth 100000 in
theorem lifted (os : Os) (started : os.Started) (H : Type) (enc : TypeId × Value → H) :
    ReturnsInHanded {} Tryd.checked os 6 .any (fun w args => (Rows.lexBlanksSpec.pre enc Tryd.prog Tryd.f6 [] false w args ∧ laidMetH Tryd.prog laidL w) ∧ sizedMet enc Tryd.prog Tryd.f6 (OpenSpec.ofChange Rows.lexBlanksSpec) false w args)
      (Rows.lexBlanksSpec.post enc Tryd.prog Tryd.f6 false true false false) := by
  refine returnsInHanded_of_change_and (C := Tryd.checked) (X := fun w _ => laidMetH Tryd.prog laidL w) (fun _ _ _ hh h => h.of_heap hh) own started (by kernel_rfl) Tryd.func6
    (ChangeSpec.witness_shaped (enc := enc) (C := Tryd.checked) (os := os) (X := fun w _ => laidMetH Tryd.prog laidL w) false (World.laidAll Tryd.prog os laidL) #[.slice none 0 0, .slice none 0 0] 8 (World.laidAll_os _ _ _) (World.shaped_of_ZipB (by kernel_rfl) (by kernel_rfl)) (by kernel_rfl) (by kernel_rfl) (by kernel_rfl) (door_met os _)) ?_
  intro W base args ds gs before hval0 hW _ hsz0 hL _
  have hsz : (DataW.weightsEach Tryd.prog (Tryd.f6.params.toList ++ Rows.lexBlanksSpec.plain.varTypes Tryd.prog) (ds ++ gs)).all (· ≤ reachBytes) = true := hsz0
  have hval : ∀ (j : Nat) t v, Tryd.f6.params[j]? = some t → args[j]? = some v → Value.okWide Tryd.prog W .any base t v := hval0
  have hW' := hW
  obtain ⟨p, q, hA0, hV, rfl, hfz, hnd⟩ := hW
  have hA : DataW.TrodAll enc Tryd.prog W 0 (fun _ => true) true Tryd.f6.params.toList args.toList ds p := hA0
  rw [Tryd.params6] at hA hval hsz
  obtain ⟨v0, vs0, d0, ds0, p0, q0, hargs, rfl, rfl, h0, r0⟩ := trodAll_cons hA
  obtain ⟨v1, vs1, d1, ds1, p1, q1, rfl, rfl, rfl, h1, r1⟩ := trodAll_cons r0
  obtain ⟨rfl, rfl, rfl⟩ := trodAll_nil r1
  obtain rfl : args = #[v0, v1] := by cases args; simp_all
  obtain ⟨rfl, rfl⟩ := trodVars_none hV
  obtain ⟨a0, len0, cap0, rfl⟩ := okWide_slice Tryd.underlying42 (hval 0 42 v0 rfl rfl)
  have k0 := h0
  have lt0 : ∀ x ∈ p0, x.block < W.heap.size := by obtain ⟨m, hm⟩ := k0; exact DataW.trod_lt m _ _ _ hm
  obtain ⟨l0, rfl, hr0, hc0, wf0, y0⟩ := Open.slice_arg (d := Kd.string) Tryd.underlying42 (Open.string Tryd.underlying9 (by kernel_rfl)) h0 hsz (j := 0) (t := 42) rfl rfl
  obtain ⟨a1, len1, cap1, rfl⟩ := okWide_slice Tryd.underlying43 (hval 1 43 v1 rfl rfl)
  have k1 := h1
  have lt1 : ∀ x ∈ p1, x.block < W.heap.size := by obtain ⟨m, hm⟩ := k1; exact DataW.trod_lt m _ _ _ hm
  obtain ⟨l1, rfl, hr1, hc1, wf1, y1⟩ := Open.slice_arg (d := (Kd.int .i64)) Tryd.underlying43 (Open.int Tryd.underlying3 (by kernel_rfl)) h1 hsz (j := 1) (t := 43) rfl rfl
  clear hA0 hval0 hsz0 hsz
  obtain ⟨k, hk⟩ := Pure.LexBlanks l0 l1 wf0 y0 wf1 y1
  refine (Px.gonglaw14_LexBlanks.calls k _ _ l0 _ _ l1 true W hr0 hc0 hr1 hc1 hk).mono fun e W' ⟨he, hd⟩ => ?_
  subst he
  have bel : Below W.heap.size W W' := hd
  exact ⟨_, rfl, _, _, _, [], _, [], hW', trodAll_mk1 (shut_bool Tryd.underlying4 _), (trodAll_cons_mk (Below.trod laidOut (by kernel_rfl) (of_decide_eq_true (by kernel_rfl)) k0 bel lt0) (trodAll_cons_mk (Below.trod laidOut (by kernel_rfl) (of_decide_eq_true (by kernel_rfl)) k1 bel lt1) trodAll_mk0)), rfl, bel.frame _, fun h => by cases h⟩
theorem over : Rows.lexBlanksRow.holds Tryd.pinned (OpenSpec.ofChange Rows.lexBlanksSpec) :=
  OpenClaim.holds_of_wide 6 Tryd.f6 rfl rfl rfl rfl rfl rfl rfl ⟨rfl, rfl, rfl, rfl, rfl⟩ rfl rfl rfl rfl rfl (by kernel_rfl) Tryd.func6 (by kernel_rfl)
    (of_decide_eq_true (by kernel_rfl)) (by unfold Func.isWrapper; first | (rw [if_pos (by decide +kernel)]; kernel_rfl) | (rw [if_neg (by decide +kernel)]; exact ⟨rfl, rfl⟩))
    (fun os started H enc _ => lifted os started H enc)
/-- The tied card. -/
theorem proved : Rows.LexBlanksCardSaid :=
  Claim7.holds_tied_plain_at .later [] [.data, .pinned] true (true, "18aeb78f34d21dff545907d89643afada66afe50a5f5d492e84272b745c70f71") false
    over (fun _ h => by cases h) (by kernel_rfl) (fun _ h => by cases h) lexBlanks_row_tie rfl ⟨rfl, rfl⟩ (by kernel_rfl) rfl
    (fun f fn hf hfn => by
      obtain rfl : f = 6 := Option.some.inj ((show Tryd.prog.funcNamed "gong/gonglaw14.LexBlanks" = some 6 by kernel_rfl).symm.trans hf) |>.symm
      obtain rfl : fn = Tryd.f6 := (Option.some.inj (Tryd.func6.symm.trans hfn)).symm
      exact ⟨by kernel_rfl, fun j t ht => by
        rw [Tryd.params6] at ht
        have hm : t ∈ [42, 43] := by simpa using Array.mem_of_getElem? ht
        have hall : ([42, 43].all fun u => !Tryd.prog.wantsStandIn u) = true := by kernel_rfl
        exact (show Tryd.prog.wantsStandIn t = false by simpa using List.all_eq_true.1 hall t hm)⟩)
    (by kernel_rfl)
#print axioms proved
end Go.Proofs.YtnghebedingjaaaDoor.lexBlanks
namespace Go.Proofs.YtnghebedingjaaaDoor
/-- The row, under a short name, for the claim. -/
theorem lexBlanks_holds : Rows.LexBlanksCardSaid := lexBlanks.proved
end Go.Proofs.YtnghebedingjaaaDoor
end
