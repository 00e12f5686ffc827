/- TicketReads: for every input that the row speaks of the law returns true, and what came in reads as it did; the variables that it lists are tied to the program's text (the card). Condition: each listed variable reads as the program's own initialisers lay it. -/
import Derived.Test.YtipenplplmdclaaDoorZTicketReadsE
import Derived.DataReads
import Derived.DataElems
import Derived.SizedLaws
import Derived.ChangeShapes
import Derived.ChangeMaps
import Derived.Test.YtipenplplmdclaaDoorRows
import Derived.LaidMore
import Derived.Stop.Joined
import Derived.Stop.LaidErr
import Derived.ProofKit
import Derived.OpenShut
import Derived.ShutString
import Derived.ChangeOld
import Derived.SevenTiedAt
import Derived.Test.YtipenplplmdclaaDoorTie
import Derived.Test.YtipenplplmdclaaDoorCards
set_option linter.unusedVariables false
set_option linter.unusedSimpArgs false
section
namespace Go.Proofs.YtipenplplmdclaaDoor.Utf
open Go Go.RowKit Go.Proofs.YtipenplplmdclaaDoor.Px Go.Proofs.YtipenplplmdclaaDoorW.PrintWords Go.Proofs.YtipenplplmdclaaDoor.Str
theorem nums_ints (l : List Nat) : strOfNums (l.map fun c : Nat => (c : Int)) = ofL (l.map UInt8.ofNat) := by
  apply ext
  rw [nums_L, ofL_L, List.map_map]
  rfl
theorem refis_f (x : Int) : gongref04_Is.f x = utf_is.f x := rfl
theorem tdiv_nat (c m : Nat) : Int.tdiv (c : Int) (m : Int) = ((c / m : Nat) : Int) := by
  rw [Int.tdiv_eq_ediv_of_nonneg (by omega)]
  simp
theorem tmod_nat (c m : Nat) : Int.tmod (c : Int) (m : Int) = ((c % m : Nat) : Int) := by
  rw [Int.tmod_eq_emod_of_nonneg (by omega)]
  simp
theorem wrap_nat (c : Nat) (h : c < 9223372036854775808) : wrap64 (c : Int) = (c : Int) := wrap64_id (by omega) (by omega)
theorem add_wrap (x y : Nat) (h : x + y < 256) : wrap64 ((x : Int) + (y : Int)) % 256 = ((x + y : Nat) : Int) := by
  rw [wrap64_id (by omega) (by omega)]
  omega
theorem made_f (c : Nat) (h : isC c) : gongref04_Made.f (c : Int) = some (ofL (enc c)) := by
  unfold isC at h
  unfold gongref04_Made.f enc
  rw [← nums_ints]
  have d1 : wrap64 (Int.tdiv (c : Int) 64) = ((c / 64 : Nat) : Int) := by rw [show (64 : Int) = ((64 : Nat) : Int) from rfl, tdiv_nat, wrap_nat _ (by omega)]
  have d2 : wrap64 (Int.tdiv (c : Int) 4096) = ((c / 4096 : Nat) : Int) := by rw [show (4096 : Int) = ((4096 : Nat) : Int) from rfl, tdiv_nat, wrap_nat _ (by omega)]
  have d3 : wrap64 (Int.tdiv (c : Int) 262144) = ((c / 262144 : Nat) : Int) := by rw [show (262144 : Int) = ((262144 : Nat) : Int) from rfl, tdiv_nat, wrap_nat _ (by omega)]
  have m : ∀ x : Nat, Int.tmod (x : Int) 64 = ((x % 64 : Nat) : Int) := fun x => tmod_nat x 64
  have a1 : ∀ (k y : Nat), k + y < 256 → wrap64 ((k : Int) + (y : Int)) % 256 = ((k + y : Nat) : Int) := add_wrap
  unfold encN
  by_cases h1 : c < 128
  · rw [if_pos (by omega), if_pos h1]
    congr 2
    simp only [List.map_cons, List.map_nil, List.cons.injEq, and_true]
    omega
  · by_cases h2 : c < 2048
    · rw [if_neg (by omega), if_pos (by omega), if_neg h1, if_pos h2, d1, m]
      have e1 := a1 192 (c / 64) (by omega)
      have e2 := a1 128 (c % 64) (by omega)
      rw [show ((192 : Nat) : Int) = 192 from rfl] at e1
      rw [show ((128 : Nat) : Int) = 128 from rfl] at e2
      rw [e1, e2]
      rfl
    · by_cases h3 : c < 65536
      · rw [if_neg (by omega), if_neg (by omega), if_pos (by omega), if_neg h1, if_neg h2, if_pos h3, d1, d2, m, m]
        have e1 := a1 224 (c / 4096) (by omega)
        have e2 := a1 128 (c % 64) (by omega)
        have e3 := a1 128 (c / 64 % 64) (by omega)
        rw [show ((224 : Nat) : Int) = 224 from rfl] at e1
        rw [show ((128 : Nat) : Int) = 128 from rfl] at e2 e3
        rw [e1, e2, e3]
        rfl
      · rw [if_neg (by omega), if_neg (by omega), if_neg (by omega), if_neg h1, if_neg h2, if_neg h3, d1, d2, d3, m, m, m]
        have e1 := a1 240 (c / 262144) (by omega)
        have e2 := a1 128 (c % 64) (by omega)
        have e3 := a1 128 (c / 64 % 64) (by omega)
        have e4 := a1 128 (c / 4096 % 64) (by omega)
        rw [show ((240 : Nat) : Int) = 240 from rfl] at e1
        rw [show ((128 : Nat) : Int) = 128 from rfl] at e2 e3 e4
        rw [e1, e2, e3, e4]
        rfl
def gs (f : Nat → Nat) (n : Nat) : Nat :=
  if n = 1 then f 0 else if n = 2 then f 0 % 32 * 64 + f 1 % 64
  else if n = 3 then (f 0 % 16 * 64 + f 1 % 64) * 64 + f 2 % 64
  else ((f 0 % 8 * 64 + f 1 % 64) * 64 + f 2 % 64) * 64 + f 3 % 64
theorem guess_step (s : ByteArray) (k n x i : Nat) (hx : x < 2097152) (hi : i < n) (hs : i < s.size) (h8 : i < 8) :
    gongref04_guess.l0 (k + 1) s (n : Int) (x : Int) (i : Int) = gongref04_guess.l0 k s (n : Int) ((x * 64 + at_ s i % 64 : Nat) : Int) ((i + 1 : Nat) : Int) := by
  simp only [gongref04_guess.l0]
  have hb := at_lt s i
  have hm : Int.tmod ((at_ s i : Nat) : Int) 64 = ((at_ s i % 64 : Nat) : Int) := tmod_nat _ 64
  rw [if_pos (by omega), if_pos (by omega), if_pos (by omega), bt_at hs, hm, wrap_nat _ (by omega), wrap64_id (x := (x : Int) * 64) (by omega) (by omega), wrap64_id (by omega) (by omega), wrap64_id (by omega) (by omega)]
  congr 1
theorem guess_end (s : ByteArray) (k n x : Nat) : gongref04_guess.l0 (k + 1) s (n : Int) (x : Int) (n : Int) = some (x : Int) := by
  simp only [gongref04_guess.l0]
  rw [if_neg (by omega)]
theorem guess_k (s : ByteArray) (k n : Nat) (h1 : 1 ≤ n) (h4 : n ≤ 4) (hs : n ≤ s.size) : gongref04_guess.f (k + 6) s (n : Int) = some ((gs (at_ s) n : Nat) : Int) := by
  have hb0 : bt s 0 = (at_ s 0 : Int) := bt_at (s := s) (i := 0) (by omega)
  have hl := at_lt s 0
  unfold gongref04_guess.f gs
  rw [if_pos (by omega), hb0, wrap_nat _ (by omega)]
  have m : ∀ (j x : Nat), gongref04_guess.j0 (k + 6) s (j : Int) (x : Int) = gongref04_guess.l0 (k + 5) s (j : Int) (x : Int) ((1 : Nat) : Int) := fun j x => by simp only [gongref04_guess.j0]; rfl
  by_cases e1 : n = 1
  · rw [if_pos (by omega), if_pos e1]
  · rw [if_neg (by omega), if_neg e1]
    by_cases e2 : n = 2
    · subst e2
      have t : Int.tmod ((at_ s 0 : Nat) : Int) 32 = ((at_ s 0 % 32 : Nat) : Int) := tmod_nat _ 32
      rw [if_pos (show ((2 : Nat) : Int) = 2 from rfl), if_pos rfl, t, m, guess_step s _ _ _ _ (by omega) (by decide) (by omega) (by decide), show (1 + 1 : Nat) = 2 from rfl, guess_end]
    · rw [if_neg (by omega), if_neg e2]
      by_cases e3 : n = 3
      · subst e3
        have t : Int.tmod ((at_ s 0 : Nat) : Int) 16 = ((at_ s 0 % 16 : Nat) : Int) := tmod_nat _ 16
        rw [if_pos (show ((3 : Nat) : Int) = 3 from rfl), if_pos rfl, t, m, guess_step s _ _ _ _ (by omega) (by decide) (by omega) (by decide), show (1 + 1 : Nat) = 2 from rfl, guess_step s _ _ _ _ (by omega) (by decide) (by omega) (by decide), show (2 + 1 : Nat) = 3 from rfl, guess_end]
      · have e4 : n = 4 := by omega
        subst e4
        have t : Int.tmod ((at_ s 0 : Nat) : Int) 8 = ((at_ s 0 % 8 : Nat) : Int) := tmod_nat _ 8
        rw [if_neg (by decide), if_neg e3, t, m, guess_step s _ _ _ _ (by omega) (by decide) (by omega) (by decide), show (1 + 1 : Nat) = 2 from rfl, guess_step s _ _ _ _ (by omega) (by decide) (by omega) (by decide), show (2 + 1 : Nat) = 3 from rfl, guess_step s _ _ _ _ (by omega) (by decide) (by omega) (by decide), show (3 + 1 : Nat) = 4 from rfl, guess_end]
theorem guess_ev (s : ByteArray) (n : Nat) (h1 : 1 ≤ n) (h4 : n ≤ 4) (hs : n ≤ s.size) : Ev (fun k => gongref04_guess.f k s (n : Int)) ((gs (at_ s) n : Nat) : Int) :=
  ⟨6, fun k hk => by obtain ⟨j, rfl⟩ : ∃ j, k = j + 6 := ⟨k - 6, by omega⟩; exact guess_k s j n h1 h4 hs⟩
theorem gs_dec {s : ByteArray} {c n : Nat} (h : dec s.data.toList = some (c, n)) : gs (at_ s) n = c := by
  obtain ⟨h1, h2, h3⟩ := dec_inv h
  have hn : ∀ i, i < n → (encN c).getD i 0 = at_ s i := by
    intro i hi
    unfold at_
    rw [h3, ← nat_enc c h1]
    unfold nat
    rw [List.getD_eq_getElem?_getD, List.getD_eq_getElem?_getD, List.getElem?_append_left (by omega), List.getElem?_map]
    rw [List.getElem?_eq_getElem (by omega)]
    rfl
  unfold isC at h1
  rw [enc_length] at h2
  unfold encN at hn h2
  unfold gs
  by_cases q1 : c < 128
  · rw [if_pos q1] at hn h2
    simp only [List.length_cons, List.length_nil] at h2
    subst h2
    have a0 := hn 0 (by decide)
    rw [if_pos rfl, ← a0]
    rfl
  · rw [if_neg q1] at hn h2
    by_cases q2 : c < 2048
    · rw [if_pos q2] at hn h2
      simp only [List.length_cons, List.length_nil] at h2
      subst h2
      have a0 := hn 0 (by decide)
      have a1 := hn 1 (by decide)
      simp only [List.getD_cons_zero, List.getD_cons_succ] at a0 a1
      rw [if_neg (by decide), if_pos rfl, ← a0, ← a1]
      omega
    · rw [if_neg q2] at hn h2
      by_cases q3 : c < 65536
      · rw [if_pos q3] at hn h2
        simp only [List.length_cons, List.length_nil] at h2
        subst h2
        have a0 := hn 0 (by decide)
        have a1 := hn 1 (by decide)
        have a2 := hn 2 (by decide)
        simp only [List.getD_cons_zero, List.getD_cons_succ] at a0 a1 a2
        rw [if_neg (by decide), if_neg (by decide), if_pos rfl, ← a0, ← a1, ← a2]
        omega
      · rw [if_neg q3] at hn h2
        simp only [List.length_cons, List.length_nil] at h2
        subst h2
        have a0 := hn 0 (by decide)
        have a1 := hn 1 (by decide)
        have a2 := hn 2 (by decide)
        have a3 := hn 3 (by decide)
        simp only [List.getD_cons_zero, List.getD_cons_succ] at a0 a1 a2 a3
        rw [if_neg (by decide), if_neg (by decide), if_neg (by decide), ← a0, ← a1, ← a2, ← a3]
        omega
theorem try_dec (s : ByteArray) (n : Nat) (hn : n ≤ s.size) : (isC (gs (at_ s) n) ∧ enc (gs (at_ s) n) = s.data.toList.take n) ↔ dec s.data.toList = some (gs (at_ s) n, n) := by
  constructor
  · intro ⟨h1, h2⟩
    have h3 := dec_enc _ h1 (s.data.toList.drop n)
    rw [h2, List.take_append_drop, List.length_take, ← size_L] at h3
    rw [h3]
    congr 2
    omega
  · intro h
    obtain ⟨h1, h2, h3⟩ := dec_inv h
    refine ⟨h1, ?_⟩
    generalize gs (at_ s) n = c at h1 h2 h3 ⊢
    rw [h2] at h3 ⊢
    rw [h3]
    exact List.take_left.symm
theorem refFirst_l0 (s : ByteArray) (d : Nat) : ∀ n : Nat, n + d = 5 → 1 ≤ n → (∀ c m, dec s.data.toList = some (c, m) → n ≤ m) → Ev (fun k => gongref04_First.l0 k s (n : Int)) (decR s.data.toList) := by
  have fin : ∀ n : Nat, (5 ≤ n ∨ s.size < n) → (∀ c m, dec s.data.toList = some (c, m) → n ≤ m) → Ev (fun k => gongref04_First.j1 k s (n : Int) false) (decR s.data.toList) := by
    intro n hn hm
    have h : dec s.data.toList = none := by
      cases hd : dec s.data.toList with
      | none => rfl
      | some x =>
        have h1 := hm x.1 x.2 hd
        have h2 := dec_le (c := x.1) (n := x.2) hd
        rw [← size_L] at h2
        omega
    rw [decR_none h]
    refine Ev.step (f := fun _ => some _) (fun k => ?_) (Ev.now _)
    simp only [gongref04_First.j1]
    rw [if_neg (by decide)]
  induction d with
  | zero =>
    intro n hd h1 hm
    refine Ev.step (fun k => ?_) (fin n (by omega) hm)
    simp only [gongref04_First.l0]
    rw [if_neg (by omega)]
  | succ d ih =>
    intro n hd h1 hm
    by_cases hs : n ≤ s.size
    · refine Ev.step (f := fun k => gongref04_First.j1 k s (n : Int) true) (fun k => ?_) ?_
      · simp only [gongref04_First.l0]
        rw [if_pos (by omega), decide_eq_true (by omega)]
      · have go : ¬ (dec s.data.toList = some (gs (at_ s) n, n)) → Ev (fun k => gongref04_First.l0 k s (wrap64 ((n : Int) + 1))) (decR s.data.toList) := by
          intro hno
          rw [show wrap64 ((n : Int) + 1) = ((n + 1 : Nat) : Int) from by rw [wrap64_id (by omega) (by omega)]; omega]
          refine ih (n + 1) (by omega) (by omega) (fun c m hcm => ?_)
          have := hm c m hcm
          by_cases e : m = n
          · subst e
            exact absurd (by rw [gs_dec hcm]; exact hcm) hno
          · omega
        refine Ev.step (f := fun k => (gongref04_guess.f k s (n : Int)).bind fun t157 => ((gongref04_Is.f t157).bind fun t158 => (if t158 = true then ((gongref04_Made.f t157).bind fun t159 => (if 0 ≤ (n : Int) then (if (n : Int) ≤ (s.size : Int) then (if t159.toList = (s.extract 0 ((n : Int) : Int).toNat).toList then (some (t157, (n : Int), 0)) else (gongref04_First.l0 k s (wrap64 ((n : Int) + 1)))) else (none)) else (none))) else (gongref04_First.l0 k s (wrap64 ((n : Int) + 1)))))) (fun k => by simp only [gongref04_First.j1, if_true]) ?_
        refine Ev.bind (guess_ev s n h1 (by omega) hs) ?_
        have hr := refis_f ((gs (at_ s) n : Nat) : Int)
        rw [is_f] at hr
        by_cases hc : isC (gs (at_ s) n)
        · by_cases ht : enc (gs (at_ s) n) = s.data.toList.take n
          · have hd' := (try_dec s n hs).1 ⟨hc, ht⟩
            rw [decR_some hd']
            refine Ev.congr (f := fun _ => some _) (fun k => ?_) (Ev.now _)
            rw [hr, decide_eq_true hc]
            simp only [Option.bind_some, if_true]
            rw [made_f _ hc]
            simp only [Option.bind_some]
            rw [if_pos (by omega), if_pos (by omega), toList_L, toList_L, ofL_L, pre_L, Int.toNat_natCast, if_pos ht]
          · refine Ev.congr (fun k => ?_) (go (fun z => ht ((try_dec s n hs).2 z).2))
            rw [hr, decide_eq_true hc]
            simp only [Option.bind_some, if_true]
            rw [made_f _ hc]
            simp only [Option.bind_some]
            rw [if_pos (by omega), if_pos (by omega), toList_L, toList_L, ofL_L, pre_L, Int.toNat_natCast, if_neg ht]
        · refine Ev.congr (fun k => ?_) (go (fun z => hc ((try_dec s n hs).2 z).1))
          rw [hr, decide_eq_false hc]
          simp only [Option.bind_some, Bool.false_eq_true, if_false]
    · refine Ev.step (fun k => ?_) (fin n (by omega) hm)
      simp only [gongref04_First.l0]
      rw [if_pos (by omega), decide_eq_false (by omega)]
theorem refFirst_ev (s : ByteArray) : Ev (fun k => gongref04_First.f k s) (decR s.data.toList) := by
  unfold gongref04_First.f
  exact refFirst_l0 s 4 1 (by decide) (by decide) (fun c m h => (dec_le h).1)
theorem refChars_l0 (s : ByteArray) (hs : s.size ≤ 1073741824) (n : Nat) : ∀ (i : Nat) (acc : List Int), s.size - i ≤ n → i ≤ s.size → acc.length ≤ i → Ev (fun k => gongref04_Chars.l0 k s acc (i : Int)) (chsR acc (s.data.toList.drop i)) := by
  have stop : ∀ (i : Nat) (acc : List Int), ¬ i < s.size → Ev (fun k => gongref04_Chars.l0 k s acc (i : Int)) (chsR acc (s.data.toList.drop i)) := by
    intro i acc h
    rw [List.drop_of_length_le (by rw [← size_L]; omega), chsR_some chs_nil]
    refine Ev.step (f := fun _ => some _) (fun k => ?_) (Ev.now _)
    simp only [gongref04_Chars.l0]
    rw [if_neg (by omega)]
    simp [ints]
  induction n with
  | zero => intro i acc hn hi ha; exact stop i acc (by omega)
  | succ n ih =>
    intro i acc hn hi ha
    by_cases hlt : i < s.size
    · have hf := refFirst_ev (s.extract i s.size)
      rw [post_L] at hf
      refine Ev.step (f := fun k => (gongref04_First.f k (s.extract i s.size)).bind fun b => if b.2.2 = 0 then (if acc.length < 17592186044416 then gongref04_Chars.l0 k s (acc ++ [b.1]) (wrap64 ((i : Int) + b.2.1)) else none) else some (([] : List Int), b.2.2)) (fun k => ?_) (Ev.bind hf ?_)
      · simp only [gongref04_Chars.l0]
        rw [if_pos (by omega), if_pos (by omega), if_pos (by omega), Int.toNat_natCast]
      · cases hd : dec (s.data.toList.drop i) with
        | none =>
          rw [decR_none hd, chsR_none (chs_none hd (by intro z; have := congrArg List.length z; rw [List.length_drop, ← size_L] at this; simp at this; omega))]
          exact Ev.congr (f := fun _ => some _) (fun k => by rw [if_neg (show ¬ (40 : Int) = 0 by decide)]) (Ev.now _)
        | some x =>
          obtain ⟨c, m⟩ := x
          have hm := dec_le hd
          rw [List.length_drop, ← size_L] at hm
          rw [decR_some hd, chsR_step hd, List.drop_drop]
          refine Ev.congr (fun k => ?_) (ih (i + m) (acc ++ [(c : Int)]) (by omega) (by omega) (by simp; omega))
          simp only [if_true]
          rw [if_pos (by omega), wrap64_id (by omega) (by omega)]
          rfl
    · exact stop i acc hlt
theorem refChars_ev (s : ByteArray) (hs : s.size ≤ 1073741824) : Ev (fun k => gongref04_Chars.f k s) (chsR [] s.data.toList) := by
  unfold gongref04_Chars.f
  exact refChars_l0 s hs s.size 0 [] (by omega) (by omega) (by simp)
end Go.Proofs.YtipenplplmdclaaDoor.Utf
end
section
namespace Go.Proofs.YtipenplplmdclaaDoor.Tkt
open Go Go.RowKit Go.Proofs.YtipenplplmdclaaDoor.Px Go.Proofs.YtipenplplmdclaaDoorW.PrintWords Go.Proofs.YtipenplplmdclaaDoor.Str Go.Proofs.YtipenplplmdclaaDoor.Utf
set_option linter.unusedSimpArgs false
set_option linter.unusedVariables false
theorem ev_succ {α : Type} {g : Nat → Option α} {r : α} (K : Nat) (h : ∀ k, K ≤ k → g (k + 1) = some r) : Ev g r := ⟨K + 1, fun k hk => by
  obtain ⟨k', rfl⟩ : ∃ k', k = k' + 1 := ⟨k - 1, by omega⟩
  exact h k' (by omega)⟩
def plB (s : ByteArray) (m : Int) : Bool := match chs s.data.toList with | some cs => !((ints cs).any norm_plain.ctl) && decide ((s.size : Int) ≤ m) | none => false
theorem plain_ev (s : ByteArray) (m : Int) (hs : s.size ≤ 1073741824) : Ev (fun k => norm_plain.f k s m) (plB s m) := by
  unfold norm_plain.f plB
  refine Ev.bind (chars_ev s hs) ?_
  cases h : chs s.data.toList with
  | none =>
    rw [chsR_none h]
    exact Ev.congr (f := fun _ => some false) (fun k => by simp) (Ev.now _)
  | some cs =>
    rw [chsR_some h]
    have hl := chs_length h
    have : s.data.toList.length = s.size := by simp
    refine Ev.congr (f := fun _ => some (!((ints cs).any norm_plain.ctl) && decide ((s.size : Int) ≤ m))) (fun k => ?_) (Ev.now _)
    simp only [List.nil_append]
    rw [if_pos (by simp [ints]; omega)]
    simp
theorem rplain_l0 (s : ByteArray) (m e : Int) (l : List Int) (hl : l.length ≤ 1073741824) (d : Nat) : ∀ i : Nat, i + d = l.length → Ev (fun k => gongref18_plain.l0 k s m l e (i : Int)) (if (l.drop i).any norm_plain.ctl = true then false else if e = 0 then decide ((s.size : Int) ≤ m) else false) := by
  induction d with
  | zero =>
    intro i hi
    refine ev_succ 0 fun k _ => ?_
    simp only [gongref18_plain.l0]
    rw [if_neg (by omega), List.drop_eq_nil_of_le (by omega)]
    by_cases he : e = 0
    · rw [if_pos he]; simp [he]
    · rw [if_neg he]; simp [he]
  | succ d ih =>
    intro i hi
    obtain ⟨K, hK⟩ := ih (i + 1) (by omega)
    refine ev_succ K fun k hk => ?_
    simp only [gongref18_plain.l0]
    rw [if_pos (by omega), if_pos (by omega)]
    have hrd : rd l (i : Int) = l.getD i 0 := by simp [rd]
    rw [hrd, List.drop_eq_getElem_cons (by omega), List.any_cons]
    have hg : l.getD i 0 = l[i]'(by omega) := by rw [List.getD_eq_getElem?_getD, List.getElem?_eq_getElem (by omega), Option.getD_some]
    rw [← hg]
    by_cases h1 : l.getD i 0 < 32
    · rw [if_pos h1, show norm_plain.ctl (l.getD i 0) = true from decide_eq_true (.inl h1)]
      simp
    rw [if_neg h1]
    by_cases h2 : l.getD i 0 = 127
    · rw [if_pos h2, show norm_plain.ctl (l.getD i 0) = true from decide_eq_true (.inr h2)]
      simp
    rw [if_neg h2, show norm_plain.ctl (l.getD i 0) = false from decide_eq_false (by omega), Bool.false_or, wrap64_id (by omega) (by omega)]
    exact hK k hk
theorem rplain_ev (s : ByteArray) (m : Int) (hs : s.size ≤ 1073741824) : Ev (fun k => gongref18_plain.f k s m) (plB s m) := by
  unfold gongref18_plain.f plB
  refine Ev.bind (refChars_ev s hs) ?_
  cases h : chs s.data.toList with
  | none =>
    rw [chsR_none h]
    have := rplain_l0 s m 40 [] (by simp) 0 0 (by simp)
    simpa using this
  | some cs =>
    rw [chsR_some h]
    have hl := chs_length h
    have hsz : s.data.toList.length = s.size := by simp
    have := rplain_l0 s m 0 ([] ++ ints cs) (by simp [ints]; omega) ([] ++ ints cs).length 0 (by omega)
    simp only [List.nil_append, List.drop_zero, if_true] at this ⊢
    cases hc : (ints cs).any norm_plain.ctl with
    | true => rw [hc] at this; simpa using this
    | false => rw [hc] at this; simpa using this
def evB (a b c : ByteArray) (n : Int) (d : ByteArray) : Bool := !(decide (a.toList = [])) && (!(decide (b.toList = [])) && (plB a 64 && (plB b 64 && (plB c 128 && (plB d 1024 && (decide (0 ≤ n) && decide (n ≤ 5)))))))
theorem ncheck_ev (a b c : ByteArray) (n : Int) (d : ByteArray) (ha : a.size ≤ 1073741824) (hb : b.size ≤ 1073741824) (hc : c.size ≤ 1073741824) (hd : d.size ≤ 1073741824) : Ev (fun k => norm_Check.f k a b c n d) (if evB a b c n d = true then 0 else 180) := by
  obtain ⟨K1, h1⟩ := plain_ev a 64 ha
  obtain ⟨K2, h2⟩ := plain_ev b 64 hb
  obtain ⟨K3, h3⟩ := plain_ev c 128 hc
  obtain ⟨K4, h4⟩ := plain_ev d 1024 hd
  refine ev_succ (K1 + K2 + K3 + K4) fun k hk => ?_
  simp only [norm_Check.f, norm_Check.j0, h1 (k + 1) (by omega), h2 (k + 1) (by omega), h3 k (by omega), h4 k (by omega), Option.bind_some, evB]
  by_cases e1 : a.toList = []
  · simp [e1]
  by_cases e2 : b.toList = []
  · simp [e1, e2]
  rcases (by omega : n < 0 ∨ 5 < n ∨ (0 ≤ n ∧ n ≤ 5)) with q | q | ⟨q, q'⟩
  · have r3 : ¬ (0 ≤ n) := by omega
    rcases Bool.eq_false_or_eq_true (plB a 64) with p1 | p1 <;> rcases Bool.eq_false_or_eq_true (plB b 64) with p2 | p2 <;> rcases Bool.eq_false_or_eq_true (plB c 128) with p3 | p3 <;> rcases Bool.eq_false_or_eq_true (plB d 1024) with p4 | p4 <;> simp [e1, e2, p1, p2, p3, p4, q, r3]
  · have r1 : ¬ (n < 0) := by omega
    have r2 : n > 5 := q
    have r4 : ¬ (n ≤ 5) := by omega
    rcases Bool.eq_false_or_eq_true (plB a 64) with p1 | p1 <;> rcases Bool.eq_false_or_eq_true (plB b 64) with p2 | p2 <;> rcases Bool.eq_false_or_eq_true (plB c 128) with p3 | p3 <;> rcases Bool.eq_false_or_eq_true (plB d 1024) with p4 | p4 <;> simp [e1, e2, p1, p2, p3, p4, q, r1, r2, r4]
  · have r1 : ¬ (n < 0) := by omega
    have r2 : ¬ (n > 5) := by omega
    have r5 : ¬ (5 < n) := by omega
    rcases Bool.eq_false_or_eq_true (plB a 64) with p1 | p1 <;> rcases Bool.eq_false_or_eq_true (plB b 64) with p2 | p2 <;> rcases Bool.eq_false_or_eq_true (plB c 128) with p3 | p3 <;> rcases Bool.eq_false_or_eq_true (plB d 1024) with p4 | p4 <;> simp [e1, e2, p1, p2, p3, p4, q, q', r1, r2, r5]
theorem rcheck18_ev (a b c : ByteArray) (n : Int) (d : ByteArray) (ha : a.size ≤ 1073741824) (hb : b.size ≤ 1073741824) (hc : c.size ≤ 1073741824) (hd : d.size ≤ 1073741824) : Ev (fun k => gongref18_Check.f k a b c n d) (if evB a b c n d = true then 0 else 180) := by
  obtain ⟨K1, h1⟩ := rplain_ev a 64 ha
  obtain ⟨K2, h2⟩ := rplain_ev b 64 hb
  obtain ⟨K3, h3⟩ := rplain_ev c 128 hc
  obtain ⟨K4, h4⟩ := rplain_ev d 1024 hd
  refine ⟨K1 + K2 + K3 + K4, fun k hk => ?_⟩
  simp only [gongref18_Check.f, h1 k (by omega), h2 k (by omega), h3 k (by omega), h4 k (by omega), Option.bind_some, evB]
  by_cases e1 : a.toList = []
  · simp [e1]
  by_cases e2 : b.toList = []
  · simp [e1, e2]
  rcases (by omega : n < 0 ∨ 5 < n ∨ (0 ≤ n ∧ n ≤ 5)) with q | q | ⟨q, q'⟩
  · have r3 : ¬ (0 ≤ n) := by omega
    rcases Bool.eq_false_or_eq_true (plB a 64) with p1 | p1 <;> rcases Bool.eq_false_or_eq_true (plB b 64) with p2 | p2 <;> rcases Bool.eq_false_or_eq_true (plB c 128) with p3 | p3 <;> rcases Bool.eq_false_or_eq_true (plB d 1024) with p4 | p4 <;> simp [e1, e2, p1, p2, p3, p4, q, r3]
  · have r1 : ¬ (n < 0) := by omega
    have r2 : n > 5 := q
    have r4 : ¬ (n ≤ 5) := by omega
    rcases Bool.eq_false_or_eq_true (plB a 64) with p1 | p1 <;> rcases Bool.eq_false_or_eq_true (plB b 64) with p2 | p2 <;> rcases Bool.eq_false_or_eq_true (plB c 128) with p3 | p3 <;> rcases Bool.eq_false_or_eq_true (plB d 1024) with p4 | p4 <;> simp [e1, e2, p1, p2, p3, p4, q, r1, r2, r4]
  · have r1 : ¬ (n < 0) := by omega
    have r2 : ¬ (n > 5) := by omega
    have r5 : ¬ (5 < n) := by omega
    rcases Bool.eq_false_or_eq_true (plB a 64) with p1 | p1 <;> rcases Bool.eq_false_or_eq_true (plB b 64) with p2 | p2 <;> rcases Bool.eq_false_or_eq_true (plB c 128) with p3 | p3 <;> rcases Bool.eq_false_or_eq_true (plB d 1024) with p4 | p4 <;> simp [e1, e2, p1, p2, p3, p4, q, q', r1, r2, r5]
def whoB (s : ByteArray) : Bool := !(decide (s.toList = [])) && plB s 64
theorem pl_ascii (b : UInt8) (h : 32 ≤ b.toNat ∧ b.toNat < 127) (m : Int) (hm : 1 ≤ m) : plB (⟨#[b]⟩ : ByteArray) m = true := by
  have hc : isC b.toNat := by unfold isC; omega
  have he : encs [b.toNat] = [b] := by rw [encs_cons, enc_u8 b (by omega)]; rfl
  have := chs_all [b.toNat] (by simpa using hc)
  rw [he] at this
  have e2 : chs (⟨#[b]⟩ : ByteArray).data.toList = some [b.toNat] := this
  unfold plB
  rw [e2]
  have hn : norm_plain.ctl (b.toNat : Int) = false := decide_eq_false (by omega)
  simp only [ints, List.map_cons, List.map_nil, List.any_cons, List.any_nil, hn, Bool.or_false, Bool.not_false, Bool.true_and]
  exact decide_eq_true (by show ((1 : Nat) : Int) ≤ m; omega)
theorem pl_empty (m : Int) (hm : 0 ≤ m) : plB (⟨#[]⟩ : ByteArray) m = true := by
  have e2 : chs (⟨#[]⟩ : ByteArray).data.toList = some [] := chs_nil
  unfold plB
  rw [e2]
  simp only [ints, List.map_nil, List.any_nil, Bool.not_false, Bool.true_and]
  exact decide_eq_true (by show ((0 : Nat) : Int) ≤ m; omega)
theorem who_one (s : ByteArray) (b : UInt8) (h : 32 ≤ b.toNat ∧ b.toNat < 127) : evB s (⟨#[b]⟩ : ByteArray) (⟨#[]⟩ : ByteArray) 0 (⟨#[]⟩ : ByteArray) = whoB s := by
  have hb : ¬ ((⟨#[b]⟩ : ByteArray).toList = []) := by rw [toList_L]; simp
  simp [evB, whoB, pl_ascii b h, pl_empty, hb]
theorem who_ev (s : ByteArray) (hs : s.size ≤ 1073741824) : Ev (fun k => board_isWho.f k s) (whoB s) := by
  unfold board_isWho.f
  refine Ev.bind (ncheck_ev s _ _ 0 _ hs (by decide) (by decide) (by decide)) ?_
  rw [who_one s 99 (by decide)]
  exact Ev.congr (f := fun _ => some (whoB s)) (fun k => by cases whoB s <;> rfl) (Ev.now _)
theorem rwho_ev (s : ByteArray) (hs : s.size ≤ 1073741824) : Ev (fun k => gongref20_IsWho.f k s) (whoB s) := by
  unfold gongref20_IsWho.f
  refine Ev.bind (rcheck18_ev s _ _ 0 _ hs (by decide) (by decide) (by decide)) ?_
  rw [who_one s 120 (by decide)]
  exact Ev.congr (f := fun _ => some (whoB s)) (fun k => by cases whoB s <;> rfl) (Ev.now _)
def timesB (f l : Int) : Bool := decide (0 ≤ f ∧ f ≤ 2305843009213693952 ∧ 0 ≤ l ∧ l ≤ 2305843009213693952 ∧ f ≤ l)
theorem times_f (f l : Int) (J : Bool → Option Int) : ((board_isTime.f f).bind fun t => (if t = true then ((board_isTime.f l).bind fun u => (if u = true then J (decide (f ≤ l)) else J false)) else J false)) = J (timesB f l) := by
  unfold board_isTime.f timesB
  by_cases z1 : f ≥ 0
  · by_cases z3 : f ≤ 2305843009213693952
    · by_cases z2 : l ≥ 0
      · by_cases z4 : l ≤ 2305843009213693952
        · simp [z1, z2, z3, z4, show 0 ≤ f from z1, show 0 ≤ l from z2]
        · simp [z1, z2, z3, z4]
      · simp [z1, z2, z3, show ¬ (0 ≤ l) from z2]
    · simp [z1, z3]
  · simp [z1, show ¬ (0 ≤ f) from z1]
def rowB (id : Int) (a b c : ByteArray) (n : Int) (d : ByteArray) (ta f l : Int) (ak : Bool) (y : ByteArray) : Bool :=
  !(decide (id < 1)) && (!(decide (n < 1)) && (!(decide (ta < 1)) && (!(decide (ta > 1099511627776)) && (timesB f l && ((if ak = true then whoB y else decide (y.toList = [])) && evB a b c n d)))))
theorem bcheck_ev (id : Int) (a b c : ByteArray) (n : Int) (d : ByteArray) (ta f l : Int) (ak : Bool) (y : ByteArray) (ha : a.size ≤ 1073741824) (hb : b.size ≤ 1073741824) (hc : c.size ≤ 1073741824) (hd : d.size ≤ 1073741824) (hy : y.size ≤ 1073741824) :
    Ev (fun k => board_Check.f k id a b c n d ta f l ak y) (if rowB id a b c n d ta f l ak y = true then 0 else 4) := by
  obtain ⟨K1, h1⟩ := ncheck_ev a b c n d ha hb hc hd
  obtain ⟨K2, h2⟩ := who_ev y hy
  refine ev_succ (K1 + K2) fun k hk => ?_
  unfold board_Check.f
  refine Eq.trans (times_f f l (fun T => board_Check.j0 (k + 1) T id a b c n d ta f l ak y)) ?_
  simp only [board_Check.j0, h1 k (by omega), h2 k (by omega), Option.bind_some, rowB]
  by_cases r1 : id < 1
  · cases ak <;> rcases Bool.eq_false_or_eq_true (whoB y) with p2 | p2 <;> simp [r1, p2]
  by_cases r2 : n < 1
  · cases ak <;> rcases Bool.eq_false_or_eq_true (whoB y) with p2 | p2 <;> simp [r1, r2, p2]
  by_cases r3 : ta < 1
  · cases ak <;> rcases Bool.eq_false_or_eq_true (whoB y) with p2 | p2 <;> simp [r1, r2, r3, p2]
  by_cases r4 : ta > 1099511627776
  · cases ak <;> rcases Bool.eq_false_or_eq_true (whoB y) with p2 | p2 <;> simp [r1, r2, r3, r4, p2]
  cases ak <;> rcases Bool.eq_false_or_eq_true (whoB y) with p2 | p2 <;> rcases Bool.eq_false_or_eq_true (evB a b c n d) with p1 | p1 <;> rcases Bool.eq_false_or_eq_true (timesB f l) with p4 | p4 <;> by_cases p3 : y.toList = [] <;> simp [r1, r2, r3, r4, p1, p2, p3, p4]
theorem rtimes_f (f l : Int) (J : Bool → Option Int) : ((gongref20_IsTime.f f).bind fun t => (if t = true then ((gongref20_IsTime.f l).bind fun u => (if u = true then J (decide (f > l)) else J true)) else J true)) = J (!(timesB f l)) := by
  unfold gongref20_IsTime.f timesB
  by_cases z1 : f ≥ 0
  · by_cases z3 : f ≤ 2305843009213693952
    · by_cases z2 : l ≥ 0
      · by_cases z4 : l ≤ 2305843009213693952
        · by_cases z5 : f ≤ l
          · simp [z1, z2, z3, z4, z5, show ¬ (f > l) by omega, show ¬ (l < f) by omega, show 0 ≤ f from z1, show 0 ≤ l from z2]
          · simp [z1, z2, z3, z4, z5, show f > l by omega, show l < f by omega]
        · simp [z1, z2, z3, z4]
      · simp [z1, z2, z3, show ¬ (0 ≤ l) from z2]
    · simp [z1, z3]
  · simp [z1, show ¬ (0 ≤ f) from z1]
theorem rshape (id n ta f l : Int) (E V : Bool) (J : Bool → Option Int) (hJ : ∀ T, J T = some (if T = true then 4 else if V = true then 0 else 4)) :
    (if id < 1 then J true else (if (if E = true then (0 : Int) else 180) = 0 then (if n < 1 then J true else (if ta < 1 then J true else (if ta > 1099511627776 then J true else ((gongref20_IsTime.f f).bind fun t => (if t = true then ((gongref20_IsTime.f l).bind fun u => (if u = true then J (decide (f > l)) else J true)) else J true))))) else J true)) =
      some (if (!(decide (id < 1)) && (!(decide (n < 1)) && (!(decide (ta < 1)) && (!(decide (ta > 1099511627776)) && (timesB f l && (V && E)))))) = true then 0 else 4) := by
  rw [rtimes_f f l J]
  simp only [hJ]
  by_cases r1 : id < 1
  · simp [r1]
  by_cases r2 : n < 1
  · cases E <;> simp [r1, r2]
  by_cases r3 : ta < 1
  · cases E <;> simp [r1, r2, r3]
  by_cases r4 : ta > 1099511627776
  · cases E <;> simp [r1, r2, r3, r4]
  cases E <;> cases V <;> cases timesB f l <;> simp [r1, r2, r3, r4]
theorem rcheck20_ev (id : Int) (a b c : ByteArray) (n : Int) (d : ByteArray) (ta f l : Int) (ak : Bool) (y : ByteArray) (ha : a.size ≤ 1073741824) (hb : b.size ≤ 1073741824) (hc : c.size ≤ 1073741824) (hd : d.size ≤ 1073741824) (hy : y.size ≤ 1073741824) :
    Ev (fun k => gongref20_Check.f k id a b c n d ta f l ak y) (if rowB id a b c n d ta f l ak y = true then 0 else 4) := by
  obtain ⟨K1, h1⟩ := rcheck18_ev a b c n d ha hb hc hd
  obtain ⟨K2, h2⟩ := rwho_ev y hy
  refine ev_succ (K1 + K2) fun k hk => ?_
  have hj : ∀ T, gongref20_Check.j0 (k + 1) T id a b c n d ta f l ak y = some (if T = true then 4 else if (if ak = true then whoB y else decide (y.toList = [])) = true then 0 else 4) := by
    intro T
    simp only [gongref20_Check.j0, h2 k (by omega), Option.bind_some]
    cases T <;> cases ak <;> rcases Bool.eq_false_or_eq_true (whoB y) with p2 | p2 <;> by_cases p3 : y.toList = [] <;> simp [p2, p3]
  unfold gongref20_Check.f
  simp only [h1 (k + 1) (by omega), Option.bind_some]
  exact rshape id n ta f l (evB a b c n d) _ (fun T => gongref20_Check.j0 (k + 1) T id a b c n d ta f l ak y) hj
def tkB (q w id : Int) (a b c : ByteArray) (n : Int) (d : ByteArray) (ta f l : Int) (ak : Bool) (y : ByteArray) : Bool :=
  !(decide (q < 1)) && (!(decide (q > 1152921504606846976)) && (!(decide (w < 1)) && (!(decide (w > 5)) && rowB id a b c n d ta f l ak y)))
theorem tcheck_ev (q w id : Int) (a b c : ByteArray) (n : Int) (d : ByteArray) (ta f l : Int) (ak : Bool) (y : ByteArray) (ha : a.size ≤ 1073741824) (hb : b.size ≤ 1073741824) (hc : c.size ≤ 1073741824) (hd : d.size ≤ 1073741824) (hy : y.size ≤ 1073741824) :
    Ev (fun k => ticket_Check.f k q w id a b c n d ta f l ak y) (if tkB q w id a b c n d ta f l ak y = true then 0 else 230) := by
  obtain ⟨K1, h1⟩ := bcheck_ev id a b c n d ta f l ak y ha hb hc hd hy
  refine ⟨K1, fun k hk => ?_⟩
  simp only [ticket_Check.f, h1 k hk, Option.bind_some, tkB]
  by_cases r1 : q < 1
  · simp [r1]
  by_cases r2 : q > 1152921504606846976
  · simp [r1, r2]
  by_cases r3 : w < 1
  · simp [r1, r2, r3]
  by_cases r4 : w > 5
  · simp [r1, r2, r3, r4]
  rcases Bool.eq_false_or_eq_true (rowB id a b c n d ta f l ak y) with p1 | p1 <;> simp [r1, r2, r3, r4, p1]
theorem rcheck_ev (q w id : Int) (a b c : ByteArray) (n : Int) (d : ByteArray) (ta f l : Int) (ak : Bool) (y : ByteArray) (ha : a.size ≤ 1073741824) (hb : b.size ≤ 1073741824) (hc : c.size ≤ 1073741824) (hd : d.size ≤ 1073741824) (hy : y.size ≤ 1073741824) :
    Ev (fun k => gongref23_Check.f k q w id a b c n d ta f l ak y) (if tkB q w id a b c n d ta f l ak y = true then 0 else 230) := by
  obtain ⟨K1, h1⟩ := rcheck20_ev id a b c n d ta f l ak y ha hb hc hd hy
  refine ⟨K1, fun k hk => ?_⟩
  simp only [gongref23_Check.f, h1 k hk, Option.bind_some, tkB]
  by_cases r1 : q < 1
  · simp [r1]
  by_cases r2 : q > 1152921504606846976
  · simp [r1, r2]
  by_cases r3 : w < 1
  · simp [r1, r2, r3]
  by_cases r4 : w > 5
  · simp [r1, r2, r3, r4]
  rcases Bool.eq_false_or_eq_true (rowB id a b c n d ta f l ak y) with p1 | p1 <;> simp [r1, r2, r3, r4, p1]
end Go.Proofs.YtipenplplmdclaaDoor.Tkt
end
section
namespace Go.Proofs.YtipenplplmdclaaDoor.OctF
open Go Go.RowKit Go.Proofs.YtipenplplmdclaaDoor.Px Go.Proofs.YtipenplplmdclaaDoorW.PrintWords Go.Proofs.YtipenplplmdclaaDoor.Str
def hi (n : Nat) : List UInt8 := if n = 0 then [] else hi (n / 128) ++ [UInt8.ofNat (n % 128 + 128)]
termination_by n
decreasing_by omega
def grp (n : Nat) : List UInt8 := hi (n / 128) ++ [UInt8.ofNat (n % 128)]
theorem hi_zero : hi 0 = [] := by rw [hi]; rfl
theorem hi_pos {n : Nat} (h : n ≠ 0) : hi n = hi (n / 128) ++ [UInt8.ofNat (n % 128 + 128)] := by
  rw [hi, if_neg h]
theorem toNat_ofNat {n : Nat} (h : n < 256) : (UInt8.ofNat n).toNat = n := by rw [UInt8.toNat_ofNat']; omega
theorem go_hi (f : Nat) : ∀ (n : Nat) (acc : List Int), n < 128 ^ f → (Oct.go f (n : Int) acc).map (fun n => UInt8.ofNat n.toNat) = hi n ++ acc.map (fun n => UInt8.ofNat n.toNat) := by
  induction f with
  | zero =>
    intro n acc h
    obtain rfl : n = 0 := by simpa using h
    rw [hi_zero]
    rfl
  | succ f ih =>
    intro n acc h
    by_cases h0 : n = 0
    · subst h0
      rw [show ((0 : Nat) : Int) = 0 from rfl, Oct.go_zero, hi_zero]
      rfl
    · rw [Oct.go_pos _ _ _ (by omega), show (n : Int) / 128 = ((n / 128 : Nat) : Int) by omega, ih (n / 128) _ (by rw [Nat.pow_succ] at h; omega), hi_pos h0, List.map_cons, List.append_assoc]
      congr 1
      rw [Oct.gB_eq]
      show _ = UInt8.ofNat (n % 128 + 128) :: _
      congr 2
theorem groups_ok (n : Nat) (h : n < 9223372036854775808) : octet_Groups.f (n : Int) = some (ofL (grp n), 0) := by
  unfold octet_Groups.f
  rw [if_neg (by omega), if_pos (by omega)]
  congr 2
  apply ext
  rw [nums_L, ofL_L]
  unfold Oct.groupsI
  rw [show (n : Int) / 128 = ((n / 128 : Nat) : Int) by omega, go_hi 8 (n / 128) _ (by omega)]
  unfold grp
  congr 1
theorem hi_length (d : Nat) : ∀ n, n < 128 ^ d → (hi n).length ≤ d := by
  induction d with
  | zero => intro n h; obtain rfl : n = 0 := by simpa using h
            rw [hi_zero]; simp
  | succ d ih =>
    intro n h
    by_cases h0 : n = 0
    · subst h0; rw [hi_zero]; simp
    · rw [hi_pos h0, List.length_append]
      have := ih (n / 128) (by rw [Nat.pow_succ] at h; omega)
      simp
      omega
theorem grp_length (n : Nat) (h : n < 9223372036854775808) : 1 ≤ (grp n).length ∧ (grp n).length ≤ 9 := by
  unfold grp
  have := hi_length 8 (n / 128) (by omega)
  simp
  omega
def be : Nat → Nat → List UInt8
  | 0, _ => []
  | w + 1, n => be w (n / 256) ++ [UInt8.ofNat n]
def pg (most : Int) : Nat → Nat → List UInt8 → Nat → Int × Int × Int
  | 0, _, _, _ => (0, 0, 3)
  | _ + 1, _, [], _ => (0, 0, 10)
  | f + 1, n, b :: r, i => if i = 0 ∧ b.toNat = 128 then (0, 0, 3) else if ((n * 128 + b.toNat % 128 : Nat) : Int) > most then (0, 0, 2) else if b.toNat < 128 then (((n * 128 + b.toNat % 128 : Nat) : Int), ((i + 1 : Nat) : Int), 0) else pg most f (n * 128 + b.toNat % 128) r (i + 1)
theorem andNot_u8 : ∀ b : Fin 256, Go.bits .andNot .u8 (b.val : Int) 128 = ((b.val % 128 : Nat) : Int) := by decide +kernel
theorem join7 (n b : Nat) (hn : n < 72057594037927936) (hb : b < 256) : Go.bits .or .i64 (wrap64 ((n : Int) * 128)) (wrap64 (Go.bits .andNot .u8 (b : Int) 128)) = ((n * 128 + b % 128 : Nat) : Int) := by
  have h := andNot_u8 ⟨b, hb⟩
  simp only at h
  rw [h, wrap64_id (by omega) (by omega), wrap64_id (by omega) (by omega)]
  rw [bits_join .i64 63 (by decide) (fun n h0 h1 => by rw [IntKind.wrap_i64]; omega) 7 ((n : Int) * 128) ((b % 128 : Nat) : Int) (by omega) (by omega) (by omega) (by omega) (by omega) (by omega)]
  omega
theorem groups_l0 (s : ByteArray) (most : Int) (d : Nat) : ∀ (k i n : Nat), i + d = 9 → i ≤ s.size → n < 128 ^ i → 2 * d + 1 ≤ k → octet_groups.l0 k s most (n : Int) (i : Int) = some (pg most d n (s.data.toList.drop i) i) := by
  induction d with
  | zero =>
    intro k i n hi hle hn hk
    obtain ⟨k, rfl⟩ : ∃ m, k = m + 1 := ⟨k - 1, by omega⟩
    simp only [octet_groups.l0]
    rw [if_neg (by omega)]
    rfl
  | succ d ih =>
    intro k i n hi hle hn hk
    obtain ⟨k, rfl⟩ : ∃ m, k = m + 2 := ⟨k - 2, by omega⟩
    have hn8 : n < 72057594037927936 := Nat.lt_of_lt_of_le hn (Nat.le_trans (Nat.pow_le_pow_right (by decide) (show i ≤ 8 by omega)) (by decide))
    simp only [octet_groups.l0]
    rw [if_pos (by omega)]
    by_cases he : i = s.size
    · rw [if_pos (by omega), List.drop_of_length_le (by simp; omega)]
      rfl
    · have hlt : i < s.size := by omega
      have hd : s.data.toList.drop i = s.data.toList[i]'(by simpa using hlt) :: s.data.toList.drop (i + 1) := List.drop_eq_getElem_cons (by simpa using hlt)
      have hb : bt s (i : Int) = ((s.data.toList[i]'(by simpa using hlt)).toNat : Int) := by
        rw [bt_L hlt]
        simp [List.getD, hlt]
      generalize s.data.toList[i]'(by simpa using hlt) = b at hd hb
      have hbl := b.toNat_lt
      rw [if_neg (by omega), if_pos (by omega), if_pos (by omega), hd, hb, join7 n b.toNat hn8 (by omega), wrap64_id (by omega) (by omega)]
      have hn' : n * 128 + b.toNat % 128 < 128 ^ (i + 1) := by rw [Nat.pow_succ]; omega
      have hj : ∀ q : Bool, q = decide (i = 0 ∧ b.toNat = 128) → octet_groups.j1 (k + 1) s most ((n * 128 + b.toNat % 128 : Nat) : Int) ((i : Int) + 1) (b.toNat : Int) q = some (pg most (d + 1) n (b :: s.data.toList.drop (i + 1)) i) := by
        intro q hq
        subst hq
        simp only [octet_groups.j1, pg, decide_eq_true_eq]
        by_cases c1 : i = 0 ∧ b.toNat = 128
        · rw [if_pos c1, if_pos c1]
        · rw [if_neg c1, if_neg c1]
          by_cases c2 : ((n * 128 + b.toNat % 128 : Nat) : Int) > most
          · rw [if_pos c2, if_pos c2]
          · rw [if_neg c2, if_neg c2]
            by_cases c3 : b.toNat < 128
            · rw [if_pos (by omega), if_pos c3]
              rfl
            · rw [if_neg (by omega), if_neg c3]
              exact ih k (i + 1) _ (by omega) (by omega) hn' (by omega)
      by_cases h0 : i = 0
      · rw [if_pos (by omega)]
        refine hj _ ?_
        by_cases h128 : b.toNat = 128
        · rw [decide_eq_true ⟨h0, h128⟩, h128]
          decide
        · rw [decide_eq_false (fun z => h128 z.2), beq_eq_false_iff_ne]
          omega
      · rw [if_neg (by omega)]
        exact hj _ (decide_eq_false (fun z => h0 z.1)).symm
def rdG (most : Int) (l : List UInt8) : Int × Int × Int := pg most 9 0 l 0
theorem groups_read (s : ByteArray) (most : Int) (k : Nat) (hk : 19 ≤ k) : octet_groups.f k s most = some (rdG most s.data.toList) := by
  unfold octet_groups.f
  have := groups_l0 s most 9 k 0 0 rfl (Nat.zero_le _) (by decide) (by omega)
  simpa [rdG] using this
theorem pg_long (most : Int) (f : Nat) : ∀ (n : Nat) (l : List UInt8) (i : Nat), 0 ≤ (pg most f n l i).2.1 ∧ (pg most f n l i).2.1 ≤ ((i + l.length : Nat) : Int) ∧ ((pg most f n l i).2.2 ≠ 0 → (pg most f n l i).1 = 0 ∧ (pg most f n l i).2.1 = 0) ∧ 0 ≤ (pg most f n l i).1 ∧ 0 ≤ (pg most f n l i).2.2 := by
  induction f with
  | zero => intro n l i; simp [pg]; omega
  | succ f ih =>
    intro n l i
    cases l with
    | nil => simp [pg]
    | cons b r =>
      simp only [pg]
      split
      · simp; omega
      · split
        · simp; omega
        · split
          · simp only [List.length_cons]
            refine ⟨by omega, by omega, fun h => absurd rfl h, by omega, by omega⟩
          · have := ih (n * 128 + b.toNat % 128) r (i + 1)
            simp only [List.length_cons]
            refine ⟨this.1, by omega, this.2.2.1, this.2.2.2⟩
theorem rdG_long (most : Int) (l : List UInt8) : 0 ≤ (rdG most l).2.1 ∧ (rdG most l).2.1 ≤ (l.length : Int) ∧ ((rdG most l).2.2 ≠ 0 → (rdG most l).1 = 0 ∧ (rdG most l).2.1 = 0) ∧ 0 ≤ (rdG most l).1 ∧ 0 ≤ (rdG most l).2.2 := by
  have := pg_long most 9 0 l 0
  simpa [rdG] using this
theorem rdG_most (most : Int) (f : Nat) : ∀ (n : Nat) (l : List UInt8) (i : Nat), 0 ≤ most → n < 128 ^ (9 - f) → f ≤ 9 → (pg most f n l i).1 ≤ most ∧ (pg most f n l i).1 < 9223372036854775808 := by
  induction f with
  | zero => intro n l i h _ _; simp [pg]; omega
  | succ f ih =>
    intro n l i h hn hf
    have hn' : n * 128 + 127 < 9223372036854775808 := by
      have : 128 ^ (9 - (f + 1)) * 128 ≤ 9223372036854775808 := by
        rw [← Nat.pow_succ]
        exact Nat.le_trans (Nat.pow_le_pow_right (by decide) (show 9 - (f + 1) + 1 ≤ 9 by omega)) (by decide)
      omega
    cases l with
    | nil => simp [pg]; omega
    | cons b r =>
      simp only [pg]
      split
      · simp; omega
      · split
        · simp; omega
        · split
          · simp only; omega
          · refine ih _ r _ h ?_ (by omega)
            rw [show 9 - f = 9 - (f + 1) + 1 by omega, Nat.pow_succ]
            omega
theorem rGroups (s : ByteArray) (c most : Int) (k : Nat) (hk : 19 ≤ k) :
    oR_Groups.f k s c most = some (if c = 0 then ((rdG most s.data.toList).1, ofL (s.data.toList.drop (rdG most s.data.toList).2.1.toNat), (rdG most s.data.toList).2.2) else (0, s, c)) := by
  unfold oR_Groups.f
  by_cases hc : c = 0
  · rw [if_pos hc, if_pos hc, groups_read s most k hk]
    simp only [Option.bind_some]
    unfold oR_Refuse.f
    rw [if_pos hc]
    simp only [Option.bind_some]
    have h := rdG_long most s.data.toList
    rw [if_pos h.1, if_pos (by have := h.2.1; simpa using this)]
    congr 3
    apply ext
    rw [post_L, ofL_L]
  · rw [if_neg hc, if_neg hc]
theorem rBytes (s : ByteArray) (c n : Int) : oR_Bytes.f s c n = some (if c = 0 then (if n < 0 then (⟨#[]⟩, s, 1) else if n > (s.size : Int) then (⟨#[]⟩, s, 10) else (ofL (s.data.toList.take n.toNat), ofL (s.data.toList.drop n.toNat), c)) else (⟨#[]⟩, s, c)) := by
  unfold oR_Bytes.f oR_Refuse.f
  by_cases hc : c = 0
  · simp only [if_pos hc, Option.bind_some]
    by_cases h1 : n < 0
    · rw [if_pos h1, if_pos h1]
    · rw [if_neg h1, if_neg h1]
      by_cases h2 : n > (s.size : Int)
      · rw [if_pos h2, if_pos h2]
      · rw [if_neg h2, if_neg h2, if_pos (by omega), if_pos (by omega)]
        congr 2
        · apply ext
          rw [pre_L, ofL_L]
        · congr 1
          apply ext
          rw [post_L, ofL_L]
  · rw [if_neg hc, if_neg hc]
end Go.Proofs.YtipenplplmdclaaDoor.OctF
end
section
namespace Go.Proofs.YtipenplplmdclaaDoor.OctF
open Go Go.RowKit Go.Proofs.YtipenplplmdclaaDoor.Px Go.Proofs.YtipenplplmdclaaDoorW.PrintWords Go.Proofs.YtipenplplmdclaaDoor.Str
theorem ref_Grouped_l0 (n : Nat) : ∀ (s : ByteArray), n < 9223372036854775808 → s.size + (hi (n / 128)).length ≤ 1000 → Ev (fun k => gongref01_Grouped.l0 k (n : Int) s) (ofL (hi (n / 128) ++ s.data.toList)) := by
  induction n using Nat.strongRecOn with
  | _ n ih =>
    intro s hn hs
    by_cases h : n < 128
    · refine Ev.step (f := fun _ => some s) (fun k => ?_) ?_
      · simp only [gongref01_Grouped.l0]
        rw [if_neg (by omega)]
      · rw [show n / 128 = 0 by omega, hi_zero, List.nil_append, ofL_of]
        exact Ev.now _
    · have h1 : n / 128 ≠ 0 := by omega
      have e1 : wrap64 (Int.tdiv (n : Int) 128) = ((n / 128 : Nat) : Int) := by
        rw [Int.tdiv_eq_ediv_of_nonneg (by omega), wrap64_id (by omega) (by omega)]
        omega
      have e2 : strOfNums [wrap64 (Int.tmod ((n / 128 : Nat) : Int) 128 + 128) % 256] = ofL [UInt8.ofNat (n / 128 % 128 + 128)] := by
        apply ext
        rw [nums_L, ofL_L, Int.tmod_eq_emod_of_nonneg (by omega), wrap64_id (by omega) (by omega)]
        simp only [List.map_cons, List.map_nil, List.cons.injEq, and_true]
        congr 1
        omega
      rw [hi_pos h1] at hs ⊢
      rw [List.length_append] at hs
      simp only [List.length_cons, List.length_nil] at hs
      have hsz : (ofL [UInt8.ofNat (n / 128 % 128 + 128)]).size + s.size ≤ 9223372036854775807 := by simp; omega
      have hsum : hi (n / 128 / 128) ++ [UInt8.ofNat (n / 128 % 128 + 128)] ++ s.data.toList = hi (n / 128 / 128) ++ (ofL [UInt8.ofNat (n / 128 % 128 + 128)] ++ s).data.toList := by simp
      rw [hsum]
      have hsz2 : (ofL [UInt8.ofNat (n / 128 % 128 + 128)] ++ s).size = 1 + s.size := by rw [size_L, app_L]; simp; omega
      refine Ev.step (f := fun k => gongref01_Grouped.l0 k ((n / 128 : Nat) : Int) (ofL [UInt8.ofNat (n / 128 % 128 + 128)] ++ s)) (fun k => ?_) (ih (n / 128) (by omega) _ (by omega) (by omega))
      simp only [gongref01_Grouped.l0]
      rw [if_pos (by omega), e1]
      simp only [Option.bind_some]
      rw [e2, if_pos hsz]
theorem ref_Grouped_ev (n : Nat) (hn : n < 9223372036854775808) : Ev (fun k => gongref01_Grouped.f k (n : Int)) (ofL (grp n)) := by
  have e : strOfNums [Int.tmod (n : Int) 128 % 256] = ofL [UInt8.ofNat (n % 128)] := by
    apply ext
    rw [nums_L, ofL_L, Int.tmod_eq_emod_of_nonneg (by omega)]
    simp only [List.map_cons, List.map_nil, List.cons.injEq, and_true]
    congr 1
    omega
  unfold gongref01_Grouped.f
  rw [e]
  have hl := hi_length 8 (n / 128) (by omega)
  exact ref_Grouped_l0 n (ofL [UInt8.ofNat (n % 128)]) hn (by simp; omega)
theorem ref_Padded_l0 (w : Int) (d : Nat) : ∀ (n : Nat) (s : ByteArray) (i : Int), w = i + (d : Int) → w ≤ 1000 → 0 ≤ i → n < 9223372036854775808 → s.size ≤ 2000 - d →
    Ev (fun k => gongref01_Padded.l0 k (n : Int) w s i) (ofL (be d n ++ s.data.toList)) := by
  induction d with
  | zero =>
    intro n s i hi hw h0 hn hs
    refine Ev.step (f := fun _ => some s) (fun k => ?_) ?_
    · simp only [gongref01_Padded.l0]
      rw [if_neg (by omega)]
    · simp only [be, List.nil_append]
      rw [ofL_of]
      exact Ev.now _
  | succ d ih =>
    intro n s i hi hw h0 hn hs
    have e1 : Int.tmod (n : Int) 256 = (n % 256 : Nat) := by rw [Int.tmod_eq_emod_of_nonneg (by omega)]; omega
    have e2 : Int.tdiv (n : Int) 256 = (n / 256 : Nat) := by rw [Int.tdiv_eq_ediv_of_nonneg (by omega)]; omega
    have e3 : (strOfNums [Int.tmod (n : Int) 256 % 256]) = ofL [UInt8.ofNat n] := by
      apply ext
      rw [nums_L, ofL_L, e1]
      simp only [List.map_cons, List.map_nil, List.cons.injEq, and_true]
      apply UInt8.toNat_inj.1
      rw [UInt8.toNat_ofNat', UInt8.toNat_ofNat']
      omega
    have hsz : (ofL [UInt8.ofNat n]).size + s.size ≤ 9223372036854775807 := by simp; omega
    have hsum : be (d + 1) n ++ s.data.toList = be d (n / 256) ++ (ofL [UInt8.ofNat n] ++ s).data.toList := by simp [be]
    rw [hsum]
    refine Ev.step (f := fun k => gongref01_Padded.l0 k ((n / 256 : Nat) : Int) w (ofL [UInt8.ofNat n] ++ s) (i + 1)) (fun k => ?_) (ih (n / 256) _ (i + 1) (by omega) hw (by omega) (by omega) ?_)
    · simp only [gongref01_Padded.l0]
      rw [if_pos (by omega)]
      simp only [Option.bind_some]
      rw [e3, if_pos hsz, e2, wrap64_id (by omega) (by omega), wrap64_id (by omega) (by omega)]
    · have : (ofL [UInt8.ofNat n] ++ s).size = 1 + s.size := by rw [size_L, app_L]; simp; omega
      omega
theorem ref_Padded_ev (n : Nat) (w : Nat) (hn : n < 9223372036854775808) (hw : w ≤ 1000) : Ev (fun k => gongref01_Padded.f k (n : Int) (w : Int)) (ofL (be w n)) := by
  have := ref_Padded_l0 (w : Int) w n ⟨#[]⟩ 0 (by omega) (by omega) (by omega) hn (by simp [size_L])
  simp only [List.append_nil] at this
  exact this
def val (l : List UInt8) : Nat := l.foldl (fun n b => n * 256 + b.toNat) 0
theorem val_snoc (l : List UInt8) (b : UInt8) : val (l ++ [b]) = val l * 256 + b.toNat := by simp [val, List.foldl_append]
theorem snoc_ind {α : Type} {Q : List α → Prop} (h0 : Q []) (h1 : ∀ l b, Q l → Q (l ++ [b])) (l : List α) : Q l := by
  rw [← List.reverse_reverse l]
  induction l.reverse with
  | nil => exact h0
  | cons b r ih => rw [List.reverse_cons]; exact h1 _ _ ih
theorem val_lt (l : List UInt8) : val l < 256 ^ l.length := by
  refine snoc_ind (Q := fun l => val l < 256 ^ l.length) (by decide) (fun l b ih => ?_) l
  rw [val_snoc, List.length_append, List.length_singleton, Nat.pow_succ]
  have := b.toNat_lt
  omega
theorem val_cons (b : UInt8) (l : List UInt8) : val (b :: l) = b.toNat * 256 ^ l.length + val l := by
  refine snoc_ind (Q := fun l => val (b :: l) = b.toNat * 256 ^ l.length + val l) (by simp [val]) (fun l c ih => ?_) l
  rw [← List.cons_append, val_snoc, ih, val_snoc, List.length_append, List.length_singleton, Nat.pow_succ, Nat.add_mul, Nat.mul_assoc]
  omega
theorem val_big (l : List UInt8) (h : l.length ≤ 8) : val l < 9223372036854775808 ↔ ¬ (l.length = 8 ∧ 128 ≤ (l.getD 0 0).toNat) := by
  by_cases h8 : l.length = 8
  · match l, h8 with
    | b :: r, h8 =>
      have hr : r.length = 7 := by simpa using h8
      have hv := val_lt r
      have h7 : (256 : Nat) ^ 7 = 72057594037927936 := by decide
      rw [hr, h7] at hv
      rw [val_cons, hr, h7, h8]
      have := b.toNat_lt
      simp only [List.getD_cons_zero, true_and]
      omega
  · have hv := val_lt l
    have : (256 : Nat) ^ l.length ≤ 256 ^ 7 := Nat.pow_le_pow_right (by decide) (by omega)
    have h7 : (256 : Nat) ^ 7 = 72057594037927936 := by decide
    constructor
    · intro _ z; exact h8 z.1
    · intro _; omega
theorem val_take (l : List UInt8) (i : Nat) (h : i < l.length) : val (l.take (i + 1)) = val (l.take i) * 256 + (l.getD i 0).toNat := by
  rw [List.take_succ_eq_append_getElem h, val_snoc]
  simp [List.getD, h]
theorem val_take_le (l : List UInt8) (i : Nat) : val (l.take i) ≤ val l := by
  have key : ∀ d i, i + d = l.length → val (l.take i) ≤ val l := by
    intro d
    induction d with
    | zero => intro i hi; rw [List.take_of_length_le (by omega)]; exact Nat.le_refl _
    | succ d ih =>
      intro i hi
      have := ih (i + 1) (by omega)
      rw [val_take l i (by omega)] at this
      omega
  by_cases h : i ≤ l.length
  · exact key (l.length - i) i (by omega)
  · rw [List.take_of_length_le (by omega)]; exact Nat.le_refl _
theorem ref_Number_l0 (s : ByteArray) (hv : val s.data.toList < 9223372036854775808) (hs : s.size ≤ 1000) (d : Nat) : ∀ i : Nat, i + d = s.size → Ev (fun k => gongref01_Number.l0 k s (val (s.data.toList.take i) : Int) (i : Int)) ((val s.data.toList : Int), true) := by
  induction d with
  | zero =>
    intro i hi
    refine Ev.step (f := fun _ => some ((val s.data.toList : Int), true)) (fun k => ?_) (Ev.now _)
    simp only [gongref01_Number.l0]
    rw [if_neg (by omega), List.take_of_length_le (by simp; omega)]
  | succ d ih =>
    intro i hi
    have hlt : i < s.size := by omega
    have ht := val_take s.data.toList i (by simpa using hlt)
    have hle := val_take_le s.data.toList (i + 1)
    have hb := (s.data.toList.getD i 0).toNat_lt
    refine Ev.step (f := fun k => gongref01_Number.l0 k s (val (s.data.toList.take (i + 1)) : Int) ((i + 1 : Nat) : Int)) (fun k => ?_) (ih (i + 1) (by omega))
    simp only [gongref01_Number.l0]
    rw [if_pos (by omega), if_pos (by omega), bt_L hlt, wrap64_id (x := ((s.data.toList.getD i 0).toNat : Int)) (by omega) (by omega), wrap64_id (x := (val (s.data.toList.take i) : Int) * 256) (by omega) (by omega), wrap64_id (by omega) (by omega), wrap64_id (by omega) (by omega), ht]
    rfl
theorem ref_Number_ev (s : ByteArray) (hs : s.size ≤ 8) : Ev (fun k => gongref01_Number.f k s) (if val s.data.toList < 9223372036854775808 then ((val s.data.toList : Int), true) else (0, false)) := by
  have hbig := val_big s.data.toList (by simpa using hs)
  have hj : Ev (fun k => gongref01_Number.j0 k s (decide ¬ (val s.data.toList < 9223372036854775808))) (if val s.data.toList < 9223372036854775808 then ((val s.data.toList : Int), true) else (0, false)) := by
    by_cases h : val s.data.toList < 9223372036854775808
    · rw [if_pos h, decide_eq_false (fun z => z h)]
      have := ref_Number_l0 s h (by omega) s.size 0 (by omega)
      refine Ev.step (f := fun k => gongref01_Number.l0 k s 0 0) (fun k => ?_) (by simpa [val] using this)
      simp only [gongref01_Number.j0]
      rw [if_neg (by decide)]
    · rw [if_neg h, decide_eq_true h]
      refine Ev.step (f := fun _ => some (0, false)) (fun k => ?_) (Ev.now _)
      simp only [gongref01_Number.j0]
      rw [if_pos trivial]
  refine Ev.congr (fun k => ?_) hj
  unfold gongref01_Number.f
  rw [← size_L] at hbig
  by_cases h8 : s.size = 8
  · rw [if_pos (by omega), if_pos (by omega), show (0 : Int) = ((0 : Nat) : Int) from rfl, bt_L (by omega)]
    congr 1
    apply decide_eq_decide.2
    rw [hbig]
    omega
  · rw [if_neg (by omega)]
    congr 1
    symm
    rw [decide_eq_false_iff_not]
    intro z
    exact z (hbig.2 (fun y => h8 y.1))
end Go.Proofs.YtipenplplmdclaaDoor.OctF
end
section
namespace Go.Proofs.YtipenplplmdclaaDoor.OctF
open Go Go.RowKit Go.Proofs.YtipenplplmdclaaDoor.Px Go.Proofs.YtipenplplmdclaaDoorW.PrintWords Go.Proofs.YtipenplplmdclaaDoor.Str
theorem ref_Text_ev (s : ByteArray) (h : s.size ≤ 1073741824) : Ev (fun k => gongref01_Text.f k s) (ofL (grp s.size ++ s.data.toList)) := by
  unfold gongref01_Text.f
  refine Ev.bind (ref_Grouped_ev s.size (by omega)) ?_
  have := grp_length s.size (by omega)
  refine Ev.congr (f := fun _ => some _) (fun k => ?_) (Ev.now _)
  rw [ofL_size, if_pos (by omega)]
  congr 1
end Go.Proofs.YtipenplplmdclaaDoor.OctF
end
section
namespace Go.Proofs.YtipenplplmdclaaDoor.CrcB
abbrev W := BitVec 32
def poly : W := 0xEDB88320#32
def A (c : W) : W := (c >>> 1) ^^^ (if c.getLsbD 0 then poly else 0#32)
def An : Nat → W → W
  | 0, c => c
  | n + 1, c => An n (A c)
def high : W := 0x80000000#32
theorem An_add (m n : Nat) (c : W) : An (m + n) c = An m (An n c) := by
  induction n generalizing c with
  | zero => rfl
  | succ n ih => rw [← Nat.add_assoc]; show An (m + n) (A c) = _; rw [ih]; rfl
theorem A_xor (x y : W) : A (x ^^^ y) = A x ^^^ A y := by
  unfold A
  rw [BitVec.ushiftRight_xor_distrib, BitVec.getLsbD_xor]
  cases x.getLsbD 0 <;> cases y.getLsbD 0
  · simp
  · simp only [Bool.false_xor, if_true, Bool.false_eq_true, if_false, BitVec.xor_zero]
    ac_rfl
  · simp only [Bool.xor_false, if_true, Bool.false_eq_true, if_false, BitVec.xor_zero]
    ac_rfl
  · simp only [Bool.xor_self, if_true, Bool.false_eq_true, if_false, BitVec.xor_zero]
    rw [show x >>> 1 ^^^ poly ^^^ (y >>> 1 ^^^ poly) = x >>> 1 ^^^ y >>> 1 ^^^ (poly ^^^ poly) by ac_rfl, BitVec.xor_self, BitVec.xor_zero]
theorem An_xor (n : Nat) (x y : W) : An n (x ^^^ y) = An n x ^^^ An n y := by
  induction n generalizing x y with
  | zero => rfl
  | succ n ih => show An n (A _) = _; rw [A_xor, ih]; rfl
theorem A_zero {x : W} (h : A x = 0#32) : x = 0#32 := by
  have h31 : (A x).getLsbD 31 = false := by rw [h]; simp
  have hl : x.getLsbD 0 = false := by
    unfold A at h31
    rw [BitVec.getLsbD_xor] at h31
    cases hx : x.getLsbD 0 with
    | false => rfl
    | true =>
      rw [hx] at h31
      simp [poly] at h31
  unfold A at h
  rw [hl] at h
  simp at h
  apply BitVec.eq_of_getLsbD_eq
  intro i hi
  cases i with
  | zero => rw [hl]; simp
  | succ i =>
    have := congrArg (fun z => BitVec.getLsbD z i) h
    simp only [BitVec.getLsbD_ushiftRight] at this
    rw [Nat.add_comm 1 i] at this
    rw [this]
    simp
theorem An_zero {n : Nat} {x : W} (h : An n x = 0#32) : x = 0#32 := by
  induction n generalizing x with
  | zero => exact h
  | succ n ih => exact A_zero (ih h)
theorem xor_eq_zero {x y : W} (h : x ^^^ y = 0#32) : x = y := by
  have : x ^^^ y ^^^ y = 0#32 ^^^ y := by rw [h]
  rw [BitVec.xor_assoc, BitVec.xor_self, BitVec.xor_zero, BitVec.zero_xor] at this
  exact this
theorem An_inj {n : Nat} {x y : W} (h : An n x = An n y) : x = y := by
  apply xor_eq_zero
  apply An_zero (n := n)
  rw [An_xor, h, BitVec.xor_self]
theorem A_even {x : W} (h : x.getLsbD 0 = false) : A x = x >>> 1 := by unfold A; rw [h]; simp
theorem An_low (n : Nat) : ∀ x : W, (∀ i, i < n → x.getLsbD i = false) → An n x = x >>> n := by
  induction n with
  | zero => intro x _; simp [An]
  | succ n ih =>
    intro x h
    show An n (A x) = _
    rw [A_even (h 0 (by omega)), ih _ (fun i hi => by rw [BitVec.getLsbD_ushiftRight]; exact h (1 + i) (by omega)), ← BitVec.shiftRight_add]
    congr 1
    omega
theorem split_low (n : Nat) (c : W) : c = ((c >>> n) <<< n) ^^^ (c &&& BitVec.ofNat 32 (2 ^ n - 1)) := by
  apply BitVec.eq_of_getLsbD_eq
  intro i hi
  simp only [BitVec.getLsbD_xor, BitVec.getLsbD_shiftLeft, BitVec.getLsbD_ushiftRight, BitVec.getLsbD_and, BitVec.getLsbD_ofNat, Nat.testBit_two_pow_sub_one]
  by_cases h : i < n
  · simp [h, hi]
  · simp [h, hi, show n + (i - n) = i by omega]
theorem An_split (n : Nat) (c : W) : An n c = (c >>> n) ^^^ An n (c &&& BitVec.ofNat 32 (2 ^ n - 1)) := by
  have e := congrArg (An n) (split_low n c)
  rw [An_xor] at e
  rw [e]
  congr 1
  rw [An_low n _ (fun i hi => by simp [hi])]
  apply BitVec.eq_of_getLsbD_eq
  intro i hi
  simp only [BitVec.getLsbD_ushiftRight, BitVec.getLsbD_shiftLeft]
  by_cases h : n + i < 32
  · simp [h]
  · simp [h, BitVec.getLsbD_of_ge c (n + i) (by omega)]
def halfB : Nat → W := fun i => BitVec.ofNat 32 ([0, 498536548, 997073096, 651767980, 1994146192, 1802195444, 1303535960, 1342533948, 3988292384, 4027552580, 3604390888, 3412177804, 2607071920, 2262029012, 2685067896, 3183342108].getD i 0)
theorem half_An : ∀ i : Fin 16, halfB i.val = An 4 (BitVec.ofNat 32 i.val) := by decide
theorem An4 (c : W) : An 4 c = (c >>> 4) ^^^ halfB (c.toNat % 16) := by
  have h := half_An ⟨c.toNat % 16, Nat.mod_lt _ (by decide)⟩
  simp only at h
  rw [h, An_split]
  congr 2
  apply BitVec.eq_of_toNat_eq
  rw [BitVec.toNat_and, BitVec.toNat_ofNat, BitVec.toNat_ofNat]
  show c.toNat &&& (2 ^ 4 - 1) = _
  rw [Nat.and_two_pow_sub_one_eq_mod]
  omega
def step (c : W) (b : W) : W := An 8 (c ^^^ b)
def byte (b : UInt8) : W := BitVec.ofNat 32 b.toNat
def run (c : W) (l : List UInt8) : W := l.foldl (fun c b => step c (byte b)) c
theorem run_nil (c : W) : run c [] = c := rfl
theorem run_cons (c : W) (b : UInt8) (l : List UInt8) : run c (b :: l) = run (step c (byte b)) l := rfl
theorem run_append (c : W) (l m : List UInt8) : run c (l ++ m) = run (run c l) m := by simp [run, List.foldl_append]
def le4 (x : W) : List UInt8 := [UInt8.ofNat x.toNat, UInt8.ofNat (x.toNat / 256), UInt8.ofNat (x.toNat / 65536), UInt8.ofNat (x.toNat / 16777216)]
theorem byte_ofNat (n : Nat) : byte (UInt8.ofNat n) = BitVec.ofNat 32 (n % 256) := by
  unfold byte
  rw [UInt8.toNat_ofNat']
theorem run_le4 (c x : W) : run c (le4 x) = An 32 (c ^^^ x) := by
  have one : ∀ d y : W, An 8 (d ^^^ y) = step d (BitVec.ofNat 32 (y.toNat % 256)) ^^^ (y >>> 8) := by
    intro d y
    unfold step
    rw [An_split 8 (d ^^^ y), An_split 8 (d ^^^ BitVec.ofNat 32 (y.toNat % 256))]
    have e1 : (d ^^^ BitVec.ofNat 32 (y.toNat % 256)) >>> 8 = d >>> 8 := by
      apply BitVec.eq_of_getLsbD_eq
      intro i hi
      rw [BitVec.getLsbD_ushiftRight, BitVec.getLsbD_ushiftRight, BitVec.getLsbD_xor, BitVec.getLsbD_ofNat]
      have : (y.toNat % 256).testBit (8 + i) = false := Nat.testBit_lt_two_pow (Nat.lt_of_lt_of_le (Nat.mod_lt _ (by decide)) (by rw [show 256 = 2 ^ 8 by rfl]; exact Nat.pow_le_pow_right (by decide) (by omega)))
      rw [this]
      simp
    have e2 : (d ^^^ BitVec.ofNat 32 (y.toNat % 256)) &&& BitVec.ofNat 32 (2 ^ 8 - 1) = (d ^^^ y) &&& BitVec.ofNat 32 (2 ^ 8 - 1) := by
      apply BitVec.eq_of_getLsbD_eq
      intro i hi
      simp only [BitVec.getLsbD_and, BitVec.getLsbD_xor, BitVec.getLsbD_ofNat, Nat.testBit_two_pow_sub_one]
      rw [show 256 = 2 ^ 8 by rfl, Nat.testBit_mod_two_pow]
      by_cases h : i < 8
      · simp [h, hi, BitVec.getLsbD]
      · simp [h]
    rw [e1, e2, BitVec.ushiftRight_xor_distrib, BitVec.xor_assoc, BitVec.xor_assoc, BitVec.xor_comm (y >>> 8)]
  have s8 : ∀ (y : W) (k : Nat), (y >>> k).toNat = y.toNat / 2 ^ k := fun y k => by rw [BitVec.toNat_ushiftRight, Nat.shiftRight_eq_div_pow]
  have z : x >>> 8 >>> 8 >>> 8 >>> 8 = 0#32 := by
    apply BitVec.eq_of_toNat_eq
    rw [s8, s8, s8, s8]
    have := x.isLt
    simp only [BitVec.toNat_ofNat]
    omega
  unfold le4
  rw [run_cons, run_cons, run_cons, run_cons, run_nil, byte_ofNat, byte_ofNat, byte_ofNat, byte_ofNat]
  show _ = An (8 + (8 + (8 + 8))) (c ^^^ x)
  rw [An_add, An_add, An_add, one c x, one _ (x >>> 8), one _ (x >>> 8 >>> 8), one _ (x >>> 8 >>> 8 >>> 8), z, BitVec.xor_zero]
  rw [s8, s8, s8, s8, s8, s8]
  simp only [Nat.div_div_eq_div_mul]
def all : W := 0xFFFFFFFF#32
def residue : W := An 32 all
theorem tag_residue (l : List UInt8) (x : W) : run all (l ++ le4 x) = residue ↔ x = run all l ^^^ all := by
  rw [run_append, run_le4]
  constructor
  · intro h
    have e : x = run all l ^^^ (run all l ^^^ x) := by rw [← BitVec.xor_assoc, BitVec.xor_self, BitVec.zero_xor]
    rw [An_inj h] at e
    exact e
  · intro h
    rw [h, ← BitVec.xor_assoc, BitVec.xor_self, BitVec.zero_xor]
    rfl
end Go.Proofs.YtipenplplmdclaaDoor.CrcB
end
section
namespace Go.Proofs.YtipenplplmdclaaDoor.CrcB
def T : Nat → W → W → W
  | 0, _, _ => 0#32
  | n + 1, a, b => T n a b ^^^ (if a.getLsbD (31 - n) then An n b else 0#32)
open Go
def B (x : Int) : W := BitVec.ofInt 32 x
def I (b : W) : Int := (b.toNat : Int)
theorem I_range (b : W) : 0 ≤ I b ∧ I b < 4294967296 := by
  unfold I
  have := b.isLt
  omega
theorem B_I (b : W) : B (I b) = b := by
  unfold B I
  rw [BitVec.ofInt_natCast]
  simp
theorem I_inj {a b : W} (h : I a = I b) : a = b := by rw [← B_I a, h, B_I]
theorem I_eq {a b : W} : I a = I b ↔ a = b := ⟨I_inj, fun h => by rw [h]⟩
theorem wrapI (b : W) : IntKind.u32.wrap (b.toNat : Int) = I b := by
  rw [IntKind.wrap_u32]
  have := b.isLt
  unfold I
  omega
theorem xor_I (x y : Int) : Go.bits .xor .u32 x y = I (B x ^^^ B y) := wrapI _
theorem and_I (x y : Int) : Go.bits .and .u32 x y = I (B x &&& B y) := wrapI _
theorem xor_II (a b : W) : Go.bits .xor .u32 (I a) (I b) = I (a ^^^ b) := by rw [xor_I, B_I, B_I]
theorem I_half (c : W) : I c / (2 : Int) = I (c >>> 1) := by
  unfold I
  rw [BitVec.toNat_ushiftRight, Nat.shiftRight_eq_div_pow]
  omega
theorem I_16 (c : W) : I c / (16 : Int) = I (c >>> 4) := by
  unfold I
  rw [BitVec.toNat_ushiftRight, Nat.shiftRight_eq_div_pow]
  omega
theorem I_256 (c : W) : I c / (256 : Int) = I (c >>> 8) := by
  unfold I
  rw [BitVec.toNat_ushiftRight, Nat.shiftRight_eq_div_pow]
  omega
theorem I_all : (4294967295 : Int) = I all := by decide
theorem I_poly : (3988292384 : Int) = I poly := by decide
theorem half_I : ∀ i : Fin 16, Crc.halfL.getD i.val 0 = I (halfB i.val) := by decide
theorem nib_I (c : W) : Crc.nib (I c) = I (An 4 c) := by
  unfold Crc.nib
  rw [Crc.and15, I_16]
  have h := half_I ⟨c.toNat % 16, Nat.mod_lt _ (by decide)⟩
  simp only at h
  have e : (I c % 16).toNat = c.toNat % 16 := by unfold I; omega
  rw [e, h, xor_II, An4]
theorem step_I (c : W) (b : UInt8) : Crc.stepI (I c) (b.toNat : Int) = I (step c (byte b)) := by
  unfold Crc.stepI
  have e : ((b.toNat : Nat) : Int) = I (byte b) := by
    unfold I byte
    have := b.toNat_lt
    rw [BitVec.toNat_ofNat]
    omega
  rw [e, xor_II, nib_I, nib_I, ← An_add]
  rfl
theorem behind_I (c : W) (l : List UInt8) : Crc.behindI (I c) l = I (run c l) := by
  induction l generalizing c with
  | nil => rfl
  | cons b l ih =>
    show Crc.behindI (Crc.stepI (I c) (b.toNat : Int)) l = _
    rw [step_I, ih]
    rfl
theorem lsb_I (c : W) : (Go.bits .and .u32 (I c) 1 = 1) ↔ c.getLsbD 0 = true := by
  have h1 : (1 : Int) = I 1#32 := by decide
  rw [h1, and_I, B_I, B_I, I_eq]
  constructor
  · intro h
    have := congrArg (fun z => BitVec.getLsbD z 0) h
    simpa using this
  · intro h
    apply BitVec.eq_of_getLsbD_eq
    intro i hi
    rw [BitVec.getLsbD_and]
    cases i with
    | zero => simp [h]
    | succ i => simp
theorem A_I (c : W) : (if Go.bits .and .u32 (I c) 1 = 1 then Go.bits .xor .u32 (I c / 2) 3988292384 else I c / 2) = I (A c) := by
  unfold A
  by_cases h : c.getLsbD 0 = true
  · rw [if_pos ((lsb_I c).2 h), if_pos h, I_half, I_poly, xor_II]
  · rw [if_neg (fun z => h ((lsb_I c).1 z)), if_neg h, I_half, BitVec.xor_zero]
end Go.Proofs.YtipenplplmdclaaDoor.CrcB
end
section
namespace Go.Proofs.YtipenplplmdclaaDoor.CrcB
open Go Go.RowKit Go.Proofs.YtipenplplmdclaaDoor.Px Go.Proofs.YtipenplplmdclaaDoorW.PrintWords Go.Proofs.YtipenplplmdclaaDoor.Str
def sumL (l : List UInt8) : W := run all l ^^^ all
theorem behind_f (c : W) (s : ByteArray) (h : s.size ≤ 140737488355328) : crc_behind.f (I c) s = some (I (run c s.data.toList)) := by
  unfold crc_behind.f
  rw [if_pos h, behind_I]
theorem sum_f (s : ByteArray) (h : s.size ≤ 140737488355328) : crc_Sum.f s = some (I (sumL s.data.toList)) := by
  unfold crc_Sum.f
  rw [I_all, behind_f _ _ h]
  simp only [Option.bind_some]
  rw [xor_II, BitVec.xor_comm]
  have := I_range (run all s.data.toList ^^^ all)
  rw [wrap64_id (by omega) (by omega)]
  rfl
def tagL (l : List UInt8) : List UInt8 := l ++ le4 (sumL l)
theorem le_I (c : W) : (crc_Tag.le 4 (I c)).map (fun n => UInt8.ofNat n.toNat) = le4 c := by
  simp only [crc_Tag.le, List.range, List.range.loop, List.map_cons, List.map_nil, crc_Tag.sh, le4, I]
  have h := c.isLt
  have e : ∀ (x : Int) (n : Nat), x = ((n % 256 : Nat) : Int) → UInt8.ofNat x.toNat = UInt8.ofNat n := fun x n hx => by
    apply UInt8.toNat_inj.1
    rw [hx, UInt8.toNat_ofNat', UInt8.toNat_ofNat', Int.toNat_natCast]
    omega
  rw [e _ c.toNat (by omega), e _ (c.toNat / 256) (by omega), e _ (c.toNat / 65536) (by omega), e _ (c.toNat / 16777216) (by omega)]
theorem tag_f (s : ByteArray) (h : s.size ≤ 1073741824) : crc_Tag.f s = some (ofL (tagL s.data.toList)) := by
  unfold crc_Tag.f
  rw [if_pos h, sum_f _ (by omega)]
  simp only [Option.bind_some, Option.some.injEq]
  apply ext
  rw [nums_L, List.map_append, le_I, ofL_L]
  unfold BR.ints
  rw [map_u8]
  rfl
theorem tagL_length (l : List UInt8) : (tagL l).length = l.length + 4 := by simp [tagL, le4]
theorem le4_inj {x y : W} (h : le4 x = le4 y) : x = y := by
  have h1 := run_le4 0#32 x
  rw [h, run_le4, BitVec.zero_xor, BitVec.zero_xor] at h1
  exact (An_inj h1).symm
theorem le4_all : ∀ l : List UInt8, l.length = 4 → ∃ x : W, l = le4 x := by
  intro l hl
  match l, hl with
  | [a, b, c, d], _ =>
    have ha := a.toNat_lt
    have hb := b.toNat_lt
    have hc := c.toNat_lt
    have hd := d.toNat_lt
    refine ⟨BitVec.ofNat 32 (a.toNat + 256 * b.toNat + 65536 * c.toNat + 16777216 * d.toNat), ?_⟩
    unfold le4
    rw [BitVec.toNat_ofNat]
    have e : ∀ (u : UInt8) (n : Nat), n % 256 = u.toNat → u = UInt8.ofNat n := fun u n h => by
      apply UInt8.toNat_inj.1
      rw [UInt8.toNat_ofNat', ← h]
    rw [← e a _ (by omega), ← e b _ (by omega), ← e c _ (by omega), ← e d _ (by omega)]
theorem owns_iff (l : List UInt8) (h : 4 ≤ l.length) : tagL (l.take (l.length - 4)) = l ↔ run all l = residue := by
  obtain ⟨x, hx⟩ := le4_all (l.drop (l.length - 4)) (by simp; omega)
  have hl : l = l.take (l.length - 4) ++ le4 x := by rw [← hx, List.take_append_drop]
  generalize l.take (l.length - 4) = m at hl
  subst hl
  rw [tag_residue]
  unfold tagL sumL
  constructor
  · intro h
    exact (le4_inj (List.append_cancel_left h)).symm
  · intro h
    rw [h]
theorem open_f (s : ByteArray) (h : s.size ≤ 1073741824) :
    crc_Open.f s = some (if 4 ≤ s.size ∧ run all s.data.toList = residue then (s.extract 0 (s.size - 4), true) else (⟨#[]⟩, false)) := by
  unfold crc_Open.f
  by_cases h4 : 4 ≤ s.size
  · rw [if_neg (by omega), wrap64_id (by omega) (by omega), if_pos (by omega), if_pos (by omega)]
    have e : ((s.size : Int) - 4).toNat = s.size - 4 := by omega
    rw [e, tag_f _ (by rw [size_L, pre_L, List.length_take]; omega)]
    simp only [Option.bind_some]
    have hk := owns_iff s.data.toList (by simpa using h4)
    rw [toList_L, toList_L, ofL_L, pre_L, show s.size = s.data.toList.length from size_L s]
    by_cases hr : run all s.data.toList = residue
    · rw [if_pos (hk.2 hr), if_pos ⟨by simpa using h4, hr⟩]
    · rw [if_neg (fun z => hr (hk.1 z)), if_neg (fun z => hr z.2)]
  · rw [if_pos (by omega), if_neg (fun z => h4 z.1)]
theorem run_tagL (l : List UInt8) : run all (tagL l) = residue := by
  unfold tagL
  rw [tag_residue]
  rfl
end Go.Proofs.YtipenplplmdclaaDoor.CrcB
end
section
namespace Go.Proofs.YtipenplplmdclaaDoor.CrcB
open Go Go.RowKit Go.Proofs.YtipenplplmdclaaDoor.Px Go.Proofs.YtipenplplmdclaaDoorW.PrintWords Go.Proofs.YtipenplplmdclaaDoor.Str
theorem ref_step_l0 (c : W) (d : Nat) : ∀ (x : W) (i : Int), i = 8 - (d : Int) → d ≤ 8 → Ev (fun k => gongref02_step.l0 k (I c) (I x) i) (I ((c >>> 8) ^^^ An d x)) := by
  induction d with
  | zero =>
    intro x i hi _
    refine Ev.step (f := fun _ => some (I ((c >>> 8) ^^^ x))) (fun k => ?_) (Ev.now _)
    simp only [gongref02_step.l0]
    rw [if_neg (by omega), I_256, xor_II]
  | succ d ih =>
    intro x i hi hd
    refine Ev.step (f := fun k => gongref02_step.l0 k (I c) (I (A x)) (i + 1)) (fun k => ?_) (ih (A x) (i + 1) (by omega) (by omega))
    simp only [gongref02_step.l0]
    rw [if_pos (by omega), wrap64_id (by omega) (by omega), ← A_I]
    split <;> rfl
theorem and255 (c : W) : (c &&& 255#32) = c &&& BitVec.ofNat 32 (2 ^ 8 - 1) := rfl
theorem ref_step_ev (c : W) (b : Int) (u : UInt8) (hb : b = (u.toNat : Int)) : Ev (fun k => gongref02_step.f k (I c) b) (I (step c (byte u))) := by
  subst hb
  have hu := u.toNat_lt
  have e : (u.toNat : Int) % 4294967296 = I (byte u) := by
    unfold I byte
    rw [BitVec.toNat_ofNat]
    omega
  have e2 : Go.bits .and .u32 (Go.bits .xor .u32 (I c) (I (byte u))) 255 = I ((c ^^^ byte u) &&& 255#32) := by
    rw [xor_II, show (255 : Int) = I 255#32 by decide, and_I, B_I, B_I]
  refine Ev.congr (f := fun k => gongref02_step.l0 k (I c) (I ((c ^^^ byte u) &&& 255#32)) 0) (fun k => by unfold gongref02_step.f; rw [e, e2]) ?_
  have h := ref_step_l0 c 8 ((c ^^^ byte u) &&& 255#32) 0 (by omega) (by omega)
  have e3 : (c >>> 8) ^^^ An 8 ((c ^^^ byte u) &&& 255#32) = step c (byte u) := by
    unfold step
    rw [and255, An_split 8 (c ^^^ byte u), BitVec.ushiftRight_xor_distrib]
    have : byte u >>> 8 = 0#32 := by
      apply BitVec.eq_of_toNat_eq
      rw [BitVec.toNat_ushiftRight, Nat.shiftRight_eq_div_pow]
      unfold byte
      simp only [BitVec.toNat_ofNat]
      omega
    rw [this, BitVec.xor_zero]
  rw [e3] at h
  exact h
theorem run_drop (c : W) (l : List UInt8) (i : Nat) (h : i < l.length) : run c (l.drop i) = run (step c (byte (l.getD i 0))) (l.drop (i + 1)) := by
  rw [List.drop_eq_getElem_cons h, run_cons]
  simp [List.getD, h]
theorem ref_Sum_l0 (s : ByteArray) (hs : s.size ≤ 1073741824) (d : Nat) : ∀ (c : W) (i : Nat), s.size = i + d → Ev (fun k => gongref02_Sum.l0 k s (I c) (i : Int)) (I (run c (s.data.toList.drop i) ^^^ all)) := by
  induction d with
  | zero =>
    intro c i hi
    refine Ev.step (f := fun _ => some (I (c ^^^ all))) (fun k => ?_) ?_
    · simp only [gongref02_Sum.l0]
      rw [if_neg (by omega), I_all, xor_II]
      have := I_range (c ^^^ all)
      rw [wrap64_id (by omega) (by omega)]
    · rw [List.drop_of_length_le (by simp; omega), run_nil]
      exact Ev.now _
  | succ d ih =>
    intro c i hi
    have hlt : i < s.size := by omega
    have hc : (i : Int) < (s.size : Int) := by omega
    refine Ev.step (f := fun k => (gongref02_step.f k (I c) (bt s (i : Int))).bind fun t => gongref02_Sum.l0 k s t (wrap64 ((i : Int) + 1))) (fun k => ?_) ?_
    · simp only [gongref02_Sum.l0]
      rw [if_pos hc, if_pos (by omega)]
    · refine Ev.bind (ref_step_ev c _ (s.data.toList.getD i 0) (bt_L hlt)) ?_
      rw [run_drop c _ i (by simpa using hlt), wrap64_id (by omega) (by omega)]
      exact ih _ (i + 1) (by omega)
theorem ref_Sum_ev (s : ByteArray) (hs : s.size ≤ 1073741824) : Ev (fun k => gongref02_Sum.f k s) (I (sumL s.data.toList)) := by
  refine Ev.congr (f := fun k => gongref02_Sum.l0 k s (I all) ((0 : Nat) : Int)) (fun k => by unfold gongref02_Sum.f; rw [I_all]; rfl) ?_
  have := ref_Sum_l0 s hs s.size all 0 (by omega)
  simpa [sumL] using this
def padL : Nat → Nat → List UInt8
  | 0, _ => []
  | w + 1, n => padL w (n / 256) ++ [UInt8.ofNat n]
theorem padL_length (w n : Nat) : (padL w n).length = w := by
  induction w generalizing n with
  | zero => rfl
  | succ w ih => simp [padL, ih]
theorem ref_Padded_l0 (w : Int) (d : Nat) : ∀ (n : Nat) (s : ByteArray) (i : Int), w = i + (d : Int) → w ≤ 1000 → 0 ≤ i → n < 9223372036854775808 → s.size ≤ 2000 - d →
    Ev (fun k => gongref01_Padded.l0 k (n : Int) w s i) (ofL (padL d n ++ s.data.toList)) := by
  induction d with
  | zero =>
    intro n s i hi hw h0 hn hs
    refine Ev.step (f := fun _ => some s) (fun k => ?_) ?_
    · simp only [gongref01_Padded.l0]
      rw [if_neg (by omega)]
    · simp only [padL, List.nil_append]
      rw [ofL_of]
      exact Ev.now _
  | succ d ih =>
    intro n s i hi hw h0 hn hs
    have e1 : Int.tmod (n : Int) 256 = (n % 256 : Nat) := by rw [Int.tmod_eq_emod_of_nonneg (by omega)]; omega
    have e2 : Int.tdiv (n : Int) 256 = (n / 256 : Nat) := by rw [Int.tdiv_eq_ediv_of_nonneg (by omega)]; omega
    have e3 : (strOfNums [Int.tmod (n : Int) 256 % 256]) = ofL [UInt8.ofNat n] := by
      apply ext
      rw [nums_L, ofL_L, e1]
      simp only [List.map_cons, List.map_nil, List.cons.injEq, and_true]
      apply UInt8.toNat_inj.1
      rw [UInt8.toNat_ofNat', UInt8.toNat_ofNat']
      omega
    have hsz : (ofL [UInt8.ofNat n]).size + s.size ≤ 9223372036854775807 := by simp; omega
    have hsum : padL (d + 1) n ++ s.data.toList = padL d (n / 256) ++ (ofL [UInt8.ofNat n] ++ s).data.toList := by simp [padL]
    rw [hsum]
    refine Ev.step (f := fun k => gongref01_Padded.l0 k ((n / 256 : Nat) : Int) w (ofL [UInt8.ofNat n] ++ s) (i + 1)) (fun k => ?_) (ih (n / 256) _ (i + 1) (by omega) hw (by omega) (by omega) ?_)
    · simp only [gongref01_Padded.l0]
      rw [if_pos (by omega)]
      simp only [Option.bind_some]
      rw [e3, if_pos hsz, e2, wrap64_id (by omega) (by omega), wrap64_id (by omega) (by omega)]
    · have : (ofL [UInt8.ofNat n] ++ s).size = 1 + s.size := by rw [size_L, app_L]; simp; omega
      omega
theorem ref_Padded_ev (n : Nat) (w : Nat) (hn : n < 9223372036854775808) (hw : w ≤ 1000) : Ev (fun k => gongref01_Padded.f k (n : Int) (w : Int)) (ofL (padL w n)) := by
  have := ref_Padded_l0 (w : Int) w n ⟨#[]⟩ 0 (by omega) (by omega) (by omega) hn (by simp [size_L])
  simp only [List.append_nil] at this
  exact this
theorem ref_Tag_ev (s : ByteArray) (hs : s.size ≤ 1073741824) : Ev (fun k => gongref02_Tag.f k s) (ofL (tagL s.data.toList)) := by
  unfold gongref02_Tag.f
  refine Ev.bind (ref_Sum_ev s hs) ?_
  have hx := (sumL s.data.toList).isLt
  have hp := ref_Padded_ev (sumL s.data.toList).toNat 4 (by omega) (by omega)
  refine Ev.bind (a := ofL (padL 4 (sumL s.data.toList).toNat)) hp ?_
  have hsz : (ofL (padL 4 (sumL s.data.toList).toNat)).size = 4 := by rw [ofL_size, padL_length]
  have hb : ∀ i : Nat, i < 4 → bt (ofL (padL 4 (sumL s.data.toList).toNat)) (i : Int) = (((padL 4 (sumL s.data.toList).toNat).getD i 0).toNat : Int) := fun i hi => bt_L (by omega)
  refine Ev.congr (f := fun _ => some (ofL (tagL s.data.toList))) (fun k => ?_) (Ev.now _)
  rw [hsz, if_pos (by decide), if_pos (by decide), if_pos (by decide), if_pos (by decide)]
  simp only [Option.bind_some]
  rw [if_pos (by rw [nums_size]; simp; omega)]
  congr 1
  apply ext
  have h3 : bt (ofL (padL 4 (sumL s.data.toList).toNat)) 3 = _ := hb 3 (by omega)
  have h2 : bt (ofL (padL 4 (sumL s.data.toList).toNat)) 2 = _ := hb 2 (by omega)
  have h1 : bt (ofL (padL 4 (sumL s.data.toList).toNat)) 1 = _ := hb 1 (by omega)
  have h0 : bt (ofL (padL 4 (sumL s.data.toList).toNat)) 0 = _ := hb 0 (by omega)
  rw [app_L, nums_L, ofL_L, h3, h2, h1, h0]
  unfold tagL
  congr 1
  simp only [List.map_cons, List.map_nil, u8_nat, padL, List.nil_append, List.cons_append, le4, Nat.div_div_eq_div_mul]
  rfl
theorem ref_Open_ev (s : ByteArray) (h : s.size ≤ 1073741824) :
    Ev (fun k => gongref02_Open.f k s) (if 4 ≤ s.size ∧ run all s.data.toList = residue then (s.extract 0 (s.size - 4), true) else (⟨#[]⟩, false)) := by
  unfold gongref02_Open.f
  rw [wrap64_id (by omega) (by omega)]
  by_cases h4 : 4 ≤ s.size
  · have e : ((s.size : Int) - 4).toNat = s.size - 4 := by omega
    have hk := owns_iff s.data.toList (by simpa using h4)
    have ht := ref_Tag_ev (s.extract 0 (s.size - 4)) (by rw [size_L, pre_L, List.length_take]; omega)
    rw [pre_L] at ht
    refine Ev.congr (f := fun k => (gongref02_Tag.f k (s.extract 0 (s.size - 4))).bind fun t => if t.toList = s.toList then some (s.extract 0 (s.size - 4), true) else some (⟨#[]⟩, false)) (fun k => ?_) (Ev.bind ht ?_)
    · rw [if_neg (by omega), if_pos (by omega), if_pos (by omega), e]
    · refine Ev.congr (f := fun _ => some _) (fun k => ?_) (Ev.now _)
      rw [toList_L, toList_L, ofL_L, show s.size = s.data.toList.length from size_L s]
      by_cases hr : run all s.data.toList = residue
      · rw [if_pos (hk.2 hr), if_pos ⟨by simpa using h4, hr⟩]
      · rw [if_neg (fun z => hr (hk.1 z)), if_neg (fun z => hr z.2)]
  · refine Ev.congr (f := fun _ => some _) (fun k => ?_) (Ev.now _)
    rw [if_pos (by omega), if_neg (fun z => h4 z.1)]
end Go.Proofs.YtipenplplmdclaaDoor.CrcB
end
section
namespace Go.Proofs.YtipenplplmdclaaDoor.Tkt
open Go Go.RowKit Go.Proofs.YtipenplplmdclaaDoor.Px Go.Proofs.YtipenplplmdclaaDoorW.PrintWords Go.Proofs.YtipenplplmdclaaDoor.Str Go.Proofs.YtipenplplmdclaaDoor.OctF Go.Proofs.YtipenplplmdclaaDoor.CrcB
set_option linter.unusedSimpArgs false
set_option linter.unusedVariables false
theorem ofL_app (x y : List UInt8) : ofL x ++ ofL y = ofL (x ++ y) := ext (by rw [app_L, ofL_L, ofL_L, ofL_L])
def gi (n : Int) : List UInt8 := grp n.toNat
theorem gi_len {n : Int} (h0 : 0 ≤ n) (h1 : n < 9223372036854775808) : (gi n).length ≤ 9 := (grp_length n.toNat (by omega)).2
theorem groups_int {n : Int} (h0 : 0 ≤ n) (h1 : n < 9223372036854775808) : octet_Groups.f n = some (ofL (gi n), 0) := by
  have := groups_ok n.toNat (by omega)
  rwa [Int.toNat_of_nonneg h0] at this
theorem grouped_int {n : Int} (h0 : 0 ≤ n) (h1 : n < 9223372036854775808) : Ev (fun k => gongref01_Grouped.f k n) (ofL (gi n)) := by
  have := ref_Grouped_ev n.toNat (by omega)
  rwa [Int.toNat_of_nonneg h0] at this
def txt (s : ByteArray) : List UInt8 := grp s.size ++ s.data.toList
theorem txt_len {s : ByteArray} (h : s.size ≤ 100000) : (txt s).length ≤ 100009 := by
  have := (grp_length s.size (by omega)).2
  have e : s.data.toList.length = s.size := by simp
  rw [txt, List.length_append, e]
  omega
theorem tgroups_l0 (l : List Int) (hl : l.length ≤ 1000000) (hx : ∀ x ∈ l, 0 ≤ x ∧ x < 9223372036854775808) (d : Nat) : ∀ (i : Nat) (acc : List UInt8), i + d = l.length → acc.length + 9 * d ≤ 100000000 → Ev (fun k => ticket_groups.l0 k (ofL acc) l (l.length : Int) (i : Int)) (ofL (acc ++ (l.drop i).flatMap gi)) := by
  induction d with
  | zero =>
    intro i acc hi _
    refine ev_succ 0 fun k _ => ?_
    simp only [ticket_groups.l0]
    rw [if_neg (by omega), List.drop_eq_nil_of_le (by omega)]
    simp
  | succ d ih =>
    intro i acc hi ha
    have hm : l.getD i 0 ∈ l := by rw [List.getD_eq_getElem?_getD, List.getElem?_eq_getElem (by omega), Option.getD_some]; exact List.getElem_mem _
    obtain ⟨h0, h1⟩ := hx _ hm
    have hg := gi_len h0 h1
    obtain ⟨K, hK⟩ := ih (i + 1) (acc ++ gi (l.getD i 0)) (by omega) (by rw [List.length_append]; omega)
    refine ev_succ K fun k hk => ?_
    simp only [ticket_groups.l0]
    have hrd : rd l (i : Int) = l.getD i 0 := by simp [rd]
    rw [if_pos (by omega), if_pos (by omega), if_pos (by omega), hrd, groups_int h0 h1, Option.bind_some]
    simp only [ofL_size]
    rw [if_pos (by omega), ofL_app, wrap64_id (by omega) (by omega)]
    have hd : l.drop i = l.getD i 0 :: l.drop (i + 1) := by rw [List.drop_eq_getElem_cons (by omega), List.getD_eq_getElem?_getD, List.getElem?_eq_getElem (by omega), Option.getD_some]
    rw [hd, List.flatMap_cons, ← List.append_assoc]
    exact hK k hk
theorem tgroups_ev (l : List Int) (hl : l.length ≤ 1000000) (hx : ∀ x ∈ l, 0 ≤ x ∧ x < 9223372036854775808) : Ev (fun k => ticket_groups.f k l) (ofL (l.flatMap gi)) := by
  have := tgroups_l0 l hl hx l.length 0 [] (by omega) (by simp; omega)
  simp only [List.nil_append, List.drop_zero] at this
  exact this
theorem rtext {s : ByteArray} (h : s.size ≤ 100000) : Ev (fun k => gongref01_Text.f k s) (ofL (txt s)) := ref_Text_ev s (by omega)
def evL (a b c : ByteArray) (n : Int) (d : ByteArray) : List UInt8 := txt a ++ (txt b ++ (txt c ++ (txt d ++ gi n)))
theorem evB_n {a b c : ByteArray} {n : Int} {d : ByteArray} (h : evB a b c n d = true) : 0 ≤ n ∧ n ≤ 5 := by
  simp only [evB, Bool.and_eq_true, decide_eq_true_eq] at h
  exact h.2.2.2.2.2.2
theorem evL_len {a b c : ByteArray} {n : Int} {d : ByteArray} (ha : a.size ≤ 100000) (hb : b.size ≤ 100000) (hc : c.size ≤ 100000) (hd : d.size ≤ 100000) (h0 : 0 ≤ n) (h1 : n < 9223372036854775808) : (evL a b c n d).length ≤ 400045 := by
  have l1 := txt_len ha
  have l2 := txt_len hb
  have l3 := txt_len hc
  have l4 := txt_len hd
  have l5 := gi_len h0 h1
  simp only [evL, List.length_append]
  omega
theorem rput18_ev (a b c : ByteArray) (n : Int) (d : ByteArray) (ha : a.size ≤ 100000) (hb : b.size ≤ 100000) (hc : c.size ≤ 100000) (hd : d.size ≤ 100000) (h0 : 0 ≤ n) (h1 : n ≤ 5) :
    Ev (fun k => gongref18_Put.f k a b c n d) (ofL (evL a b c n d)) := by
  obtain ⟨K1, e1⟩ := rtext ha
  obtain ⟨K2, e2⟩ := rtext hb
  obtain ⟨K3, e3⟩ := rtext hc
  obtain ⟨K4, e4⟩ := rtext hd
  obtain ⟨K5, e5⟩ := grouped_int h0 (show n < 9223372036854775808 by omega)
  refine ⟨K1 + K2 + K3 + K4 + K5, fun k hk => ?_⟩
  have l1 := txt_len ha
  have l2 := txt_len hb
  have l3 := txt_len hc
  have l4 := txt_len hd
  have l5 := gi_len h0 (by omega)
  simp only [gongref18_Put.f, e1 k (by omega), e2 k (by omega), e3 k (by omega), e4 k (by omega), e5 k (by omega), Option.bind_some, ofL_app, ofL_size, List.length_append]
  rw [if_pos (by omega), if_pos (by omega), if_pos (by omega), if_pos (by omega)]
  simp only [evL, List.append_assoc]
def akL (ak : Bool) : List UInt8 := if ak = true then [1] else [0]
def rowL (id : Int) (a b c : ByteArray) (n : Int) (d : ByteArray) (ta f l : Int) (ak : Bool) (y : ByteArray) : List UInt8 := gi id ++ (gi ta ++ (gi f ++ (gi l ++ (akL ak ++ (txt y ++ evL a b c n d)))))
def payL (w id : Int) (a b c : ByteArray) (n : Int) (d : ByteArray) (ta f l : Int) (ak : Bool) (y : ByteArray) : List UInt8 := UInt8.ofNat w.toNat :: rowL id a b c n d ta f l ak y
theorem num_w {w : Int} (h0 : 0 ≤ w) (h1 : w < 256) : strOfNums ([w % 256] : List Int) = ofL [UInt8.ofNat w.toNat] := by
  apply ext
  rw [nums_L, ofL_L, Int.emod_eq_of_lt h0 h1]
  rfl
theorem timesB_iff {f l : Int} : timesB f l = true ↔ 0 ≤ f ∧ f ≤ 2305843009213693952 ∧ 0 ≤ l ∧ l ≤ 2305843009213693952 ∧ f ≤ l := by unfold timesB; exact decide_eq_true_iff
theorem rowB_iff {id : Int} {a b c : ByteArray} {n : Int} {d : ByteArray} {ta f l : Int} {ak : Bool} {y : ByteArray} : rowB id a b c n d ta f l ak y = true ↔
    1 ≤ id ∧ 1 ≤ n ∧ 1 ≤ ta ∧ ta ≤ 1099511627776 ∧ timesB f l = true ∧ (if ak = true then whoB y else decide (y.toList = [])) = true ∧ evB a b c n d = true := by
  unfold rowB
  simp only [Bool.and_eq_true, Bool.not_eq_true', decide_eq_false_iff_not, Int.not_lt, gt_iff_lt]
theorem tkB_iff {q w id : Int} {a b c : ByteArray} {n : Int} {d : ByteArray} {ta f l : Int} {ak : Bool} {y : ByteArray} : tkB q w id a b c n d ta f l ak y = true ↔
    1 ≤ q ∧ q ≤ 1152921504606846976 ∧ 1 ≤ w ∧ w ≤ 5 ∧ rowB id a b c n d ta f l ak y = true := by
  unfold tkB
  simp only [Bool.and_eq_true, Bool.not_eq_true', decide_eq_false_iff_not, Int.not_lt, gt_iff_lt]
theorem akL_len (ak : Bool) : (akL ak).length = 1 := by cases ak <;> rfl
theorem rowL_len {id : Int} {a b c : ByteArray} {n : Int} {d : ByteArray} {ta f l : Int} {ak : Bool} {y : ByteArray} (ha : a.size ≤ 100000) (hb : b.size ≤ 100000) (hc : c.size ≤ 100000) (hd : d.size ≤ 100000) (hy : y.size ≤ 100000)
    (hid : id < 9223372036854775808) (h : rowB id a b c n d ta f l ak y = true) : (rowL id a b c n d ta f l ak y).length ≤ 600000 := by
  obtain ⟨r1, r2, r3, r4, r5, r6, r7⟩ := rowB_iff.1 h
  obtain ⟨t1, t2, t3, t4, t5⟩ := timesB_iff.1 r5
  have hn := evB_n r7
  have l1 := evL_len ha hb hc hd hn.1 (show n < 9223372036854775808 by omega)
  have l2 := txt_len hy
  have l3 := gi_len (show 0 ≤ id by omega) hid
  have l4 := gi_len (show 0 ≤ ta by omega) (by omega)
  have l5 := gi_len t1 (by omega)
  have l6 := gi_len t3 (by omega)
  simp only [rowL, List.length_append, akL_len]
  omega
theorem flat1 (a : Int) : [a].flatMap gi = gi a := by simp
theorem rrow_ev (id : Int) (a b c : ByteArray) (n : Int) (d : ByteArray) (ta f l : Int) (ak : Bool) (y : ByteArray) (ha : a.size ≤ 100000) (hb : b.size ≤ 100000) (hc : c.size ≤ 100000) (hd : d.size ≤ 100000) (hy : y.size ≤ 100000) (hid : id < 9223372036854775808) (hr : rowB id a b c n d ta f l ak y = true) :
    Ev (fun k => gongref23_PutRow.f k id a b c n d ta f l ak y) (ofL (rowL id a b c n d ta f l ak y)) := by
  obtain ⟨r1, r2, r3, r4, r5, r6, r7⟩ := rowB_iff.1 hr
  obtain ⟨t1, t2, t3, t4, t5⟩ := timesB_iff.1 r5
  have hn := evB_n r7
  obtain ⟨K1, h1⟩ := grouped_int (show 0 ≤ id by omega) hid
  obtain ⟨K2, h2⟩ := grouped_int (show 0 ≤ ta by omega) (show ta < 9223372036854775808 by omega)
  obtain ⟨K3, h3⟩ := grouped_int t1 (show f < 9223372036854775808 by omega)
  obtain ⟨K4, h4⟩ := grouped_int t3 (show l < 9223372036854775808 by omega)
  obtain ⟨K5, h5⟩ := rtext hy
  obtain ⟨K6, h6⟩ := rput18_ev a b c n d ha hb hc hd hn.1 hn.2
  refine ev_succ (K1 + K2 + K3 + K4 + K5 + K6) fun k hk => ?_
  have l1 := evL_len ha hb hc hd hn.1 (show n < 9223372036854775808 by omega)
  have l2 := txt_len hy
  have l3 := gi_len (show 0 ≤ id by omega) hid
  have l4 := gi_len (show 0 ≤ ta by omega) (show ta < 9223372036854775808 by omega)
  have l5 := gi_len t1 (show f < 9223372036854775808 by omega)
  have l6 := gi_len t3 (show l < 9223372036854775808 by omega)
  have e0 : (⟨#[0]⟩ : ByteArray) = ofL [0] := rfl
  have e1 : (⟨#[1]⟩ : ByteArray) = ofL [1] := rfl
  cases ak
  · simp only [gongref23_PutRow.f, gongref23_PutRow.j0, h1 k (by omega), h2 k (by omega), h3 k (by omega), h4 k (by omega), h5 k (by omega), h6 k (by omega), Option.bind_some, Bool.false_eq_true, if_false, e0, ofL_app, ofL_size, List.length_append, List.length_cons, List.length_nil]
    rw [if_pos (by omega), if_pos (by omega), if_pos (by omega), if_pos (by omega), if_pos (by omega), if_pos (by omega)]
    simp only [rowL, akL, Bool.false_eq_true, if_false, List.append_assoc, List.cons_append, List.nil_append]
  · simp only [gongref23_PutRow.f, gongref23_PutRow.j0, h1 k (by omega), h2 k (by omega), h3 k (by omega), h4 k (by omega), h5 k (by omega), h6 k (by omega), Option.bind_some, if_true, e1, ofL_app, ofL_size, List.length_append, List.length_cons, List.length_nil]
    rw [if_pos (by omega), if_pos (by omega), if_pos (by omega), if_pos (by omega), if_pos (by omega), if_pos (by omega)]
    simp only [rowL, akL, if_true, List.append_assoc, List.cons_append, List.nil_append]
theorem rput_ev (q w id : Int) (a b c : ByteArray) (n : Int) (d : ByteArray) (ta f l : Int) (ak : Bool) (y : ByteArray) (ha : a.size ≤ 100000) (hb : b.size ≤ 100000) (hc : c.size ≤ 100000) (hd : d.size ≤ 100000) (hy : y.size ≤ 100000) (hid : id < 9223372036854775808)
    (h0 : 0 ≤ w) (hw : w < 256) (hr : rowB id a b c n d ta f l ak y = true) : Ev (fun k => gongref23_Put.f k q w id a b c n d ta f l ak y) (ofL (payL w id a b c n d ta f l ak y)) := by
  obtain ⟨K1, h1⟩ := rrow_ev id a b c n d ta f l ak y ha hb hc hd hy hid hr
  refine ⟨K1, fun k hk => ?_⟩
  have l1 := rowL_len ha hb hc hd hy hid hr
  simp only [gongref23_Put.f, h1 k hk, Option.bind_some, num_w h0 hw, ofL_app, ofL_size, List.length_cons, List.length_nil]
  rw [if_pos (by omega)]
  rfl
def msgL (q w id : Int) (a b c : ByteArray) (n : Int) (d : ByteArray) (ta f l : Int) (ak : Bool) (y : ByteArray) : List UInt8 := 71 :: (gi q ++ payL w id a b c n d ta f l ak y)
theorem payL_len {w id : Int} {a b c : ByteArray} {n : Int} {d : ByteArray} {ta f l : Int} {ak : Bool} {y : ByteArray} (ha : a.size ≤ 100000) (hb : b.size ≤ 100000) (hc : c.size ≤ 100000) (hd : d.size ≤ 100000) (hy : y.size ≤ 100000)
    (hid : id < 9223372036854775808) (h : rowB id a b c n d ta f l ak y = true) : (payL w id a b c n d ta f l ak y).length ≤ 600001 := by
  have := rowL_len ha hb hc hd hy hid h
  simp only [payL, List.length_cons]
  omega
theorem g71 : (⟨#[71]⟩ : ByteArray) = ofL [71] := rfl
theorem renc_ev (q w id : Int) (a b c : ByteArray) (n : Int) (d : ByteArray) (ta f l : Int) (ak : Bool) (y : ByteArray) (ha : a.size ≤ 100000) (hb : b.size ≤ 100000) (hc : c.size ≤ 100000) (hd : d.size ≤ 100000) (hy : y.size ≤ 100000) (hid : id < 9223372036854775808) :
    Ev (fun k => gongref23_Encode.f k q w id a b c n d ta f l ak y) (if tkB q w id a b c n d ta f l ak y = true then (ofL (tagL (msgL q w id a b c n d ta f l ak y)), 0) else (⟨#[]⟩, 230)) := by
  obtain ⟨K1, h1⟩ := rcheck_ev q w id a b c n d ta f l ak y (by omega) (by omega) (by omega) (by omega) (by omega)
  rcases Bool.eq_false_or_eq_true (tkB q w id a b c n d ta f l ak y) with p | p
  · obtain ⟨q1, q2, q3, q4, hr⟩ := tkB_iff.1 p
    obtain ⟨K2, h2⟩ := rput_ev q w id a b c n d ta f l ak y ha hb hc hd hy hid (by omega) (by omega) hr
    obtain ⟨K3, h3⟩ := grouped_int (show 0 ≤ q by omega) (show q < 9223372036854775808 by omega)
    have l1 := payL_len (w := w) ha hb hc hd hy hid hr
    have l2 := gi_len (show 0 ≤ q by omega) (show q < 9223372036854775808 by omega)
    obtain ⟨K4, h4⟩ := ref_Tag_ev (ofL ([71] ++ gi q ++ payL w id a b c n d ta f l ak y)) (by rw [ofL_size]; simp only [List.length_append, List.length_cons, List.length_nil]; omega)
    refine ⟨K1 + K2 + K3 + K4, fun k hk => ?_⟩
    simp only [gongref23_Encode.f, h1 k (by omega), h2 k (by omega), h3 k (by omega), p, Option.bind_some, if_true, g71, ofL_app, ofL_size, List.length_append, List.length_cons, List.length_nil]
    rw [if_pos (by omega), if_pos (by omega), show gongref02_Tag.f k (ofL ([71] ++ gi q ++ payL w id a b c n d ta f l ak y)) = _ from h4 k (by omega), Option.bind_some, ofL_L]
    simp only [msgL, List.append_assoc, List.cons_append, List.nil_append]
  · refine ⟨K1, fun k hk => ?_⟩
    simp [gongref23_Encode.f, h1 k hk, p]
def ackB (n : Int) : Bool := decide (1 ≤ n ∧ n ≤ 1152921504606846976)
def ackL (n : Int) : List UInt8 := 65 :: gi n
theorem g65 : (⟨#[65]⟩ : ByteArray) = ofL [65] := rfl
theorem tack_ev (n : Int) : Ev (fun k => ticket_Ack.f k n) (if ackB n = true then (ofL (tagL (ackL n)), 0) else (⟨#[]⟩, 230)) := by
  by_cases r1 : n < 1
  · refine ev_succ 0 fun k _ => ?_
    rw [show ackB n = false from decide_eq_false (by omega)]
    simp [ticket_Ack.f, ticket_Ack.j0, r1]
  by_cases r2 : n > 1152921504606846976
  · refine ev_succ 0 fun k _ => ?_
    rw [show ackB n = false from decide_eq_false (by omega)]
    simp [ticket_Ack.f, ticket_Ack.j0, r1, r2]
  · obtain ⟨K2, h2⟩ := tgroups_ev [n] (by simp) (by intro x hx; simp only [List.mem_cons, List.not_mem_nil, or_false] at hx; subst hx; omega)
    refine ev_succ K2 fun k hk => ?_
    have l2 := gi_len (show 0 ≤ n by omega) (by omega)
    rw [show ackB n = true from decide_eq_true (by omega)]
    simp only [ticket_Ack.f, ticket_Ack.j0, r1, r2, decide_false, Bool.false_eq_true, if_false, if_true, h2 k hk, flat1, Option.bind_some, g65, ofL_app, ofL_size]
    rw [if_pos (by omega), tag_f _ (by rw [ofL_size]; simp only [List.length_append, List.length_cons, List.length_nil]; omega), Option.bind_some, ofL_L]
    rfl
theorem rack_ev (n : Int) : Ev (fun k => gongref23_Ack.f k n) (if ackB n = true then (ofL (tagL (ackL n)), 0) else (⟨#[]⟩, 230)) := by
  by_cases r1 : n < 1
  · refine ev_succ 0 fun k _ => ?_
    rw [show ackB n = false from decide_eq_false (by omega)]
    simp [gongref23_Ack.f, gongref23_Ack.j0, r1]
  by_cases r2 : n > 1152921504606846976
  · refine ev_succ 0 fun k _ => ?_
    rw [show ackB n = false from decide_eq_false (by omega)]
    simp [gongref23_Ack.f, gongref23_Ack.j0, r1, r2]
  · obtain ⟨K2, h2⟩ := grouped_int (show 0 ≤ n by omega) (show n < 9223372036854775808 by omega)
    have l2 := gi_len (show 0 ≤ n by omega) (show n < 9223372036854775808 by omega)
    obtain ⟨K4, h4⟩ := ref_Tag_ev (ofL ([65] ++ gi n)) (by rw [ofL_size]; simp only [List.length_append, List.length_cons, List.length_nil]; omega)
    refine ev_succ (K2 + K4) fun k hk => ?_
    rw [show ackB n = true from decide_eq_true (by omega)]
    simp only [gongref23_Ack.f, gongref23_Ack.j0, r1, r2, decide_false, Bool.false_eq_true, if_false, if_true, h2 k (by omega), Option.bind_some, g65, ofL_app, ofL_size]
    rw [if_pos (by omega), show gongref02_Tag.f k (ofL ([65] ++ gi n)) = _ from h4 k (by omega), Option.bind_some, ofL_L]
    rfl
end Go.Proofs.YtipenplplmdclaaDoor.Tkt
end
section
namespace Go.Proofs.YtipenplplmdclaaDoor.OctF
open Go Go.Proofs.YtipenplplmdclaaDoor.Str
theorem pg_hi (most : Int) (q : Nat) : ∀ acc : List UInt8, (q : Int) ≤ most → q < 72057594037927936 → pg most 9 0 (hi q ++ acc) 0 = pg most (9 - (hi q).length) q acc (hi q).length := by
  induction q using Nat.strongRecOn with
  | _ q ih =>
    intro acc hm hq
    by_cases h0 : q = 0
    · subst h0
      rw [hi_zero]
      rfl
    · have hl : (hi (q / 128)).length ≤ 7 := hi_length 7 _ (by omega)
      rw [hi_pos h0, List.append_assoc, ih (q / 128) (by omega) _ (by omega) (by omega)]
      generalize hL : (hi (q / 128)).length = L at hl
      obtain ⟨f, hf⟩ : ∃ f, 9 - L = f + 1 := ⟨8 - L, by omega⟩
      have hb : (UInt8.ofNat (q % 128 + 128)).toNat = q % 128 + 128 := toNat_ofNat (by omega)
      have hz : ¬ (L = 0 ∧ q % 128 + 128 = 128) := by
        rintro ⟨z1, z2⟩
        have hq0 : q / 128 = 0 := by
          rcases Nat.eq_zero_or_pos (q / 128) with h | h
          · exact h
          · rw [hi_pos (by omega), List.length_append] at hL
            simp at hL
            omega
        omega
      rw [hf]
      simp only [List.cons_append, List.nil_append, pg, hb]
      rw [if_neg hz, show q / 128 * 128 + (q % 128 + 128) % 128 = q by omega, if_neg (by omega), if_neg (by omega), List.length_append, hL]
      simp only [List.length_cons, List.length_nil, Nat.zero_add]
      congr 1
      omega
theorem rdG_grp (most : Int) (n : Nat) (r : List UInt8) (hm : (n : Int) ≤ most) (hn : n < 9223372036854775808) : rdG most (grp n ++ r) = ((n : Int), ((grp n).length : Int), 0) := by
  have hl : (hi (n / 128)).length ≤ 8 := hi_length 8 _ (by omega)
  unfold rdG grp
  rw [List.append_assoc, pg_hi most (n / 128) _ (by omega) (by omega)]
  generalize hL : (hi (n / 128)).length = L at hl ⊢
  have hb : (UInt8.ofNat (n % 128)).toNat = n % 128 := toNat_ofNat (by omega)
  obtain ⟨f, hf⟩ : ∃ f, 9 - L = f + 1 := ⟨8 - L, by omega⟩
  rw [hf]
  simp only [List.cons_append, List.nil_append, pg, hb, List.length_append, List.length_cons, List.length_nil]
  rw [if_neg (by omega), show n / 128 * 128 + n % 128 % 128 = n by omega, if_neg (by omega), if_pos (by omega), hL]
theorem pg_inv (most : Int) (f : Nat) : ∀ (n : Nat) (pre l : List UInt8) (i : Nat), i = pre.length → hi n = pre → (i = 0 ↔ n = 0) → (pg most f n l i).2.2 = 0 →
    ∃ m : Nat, (pg most f n l i).1 = (m : Int) ∧ ∃ j : Nat, (pg most f n l i).2.1 = (j : Int) ∧ i ≤ j ∧ j ≤ i + l.length ∧ grp m = pre ++ l.take (j - i) := by
  induction f with
  | zero => intro n pre l i _ _ _ h; simp [pg] at h
  | succ f ih =>
    intro n pre l i hi' hp hz h
    cases l with
    | nil => simp [pg] at h
    | cons b r =>
      simp only [pg] at h ⊢
      have hbl := b.toNat_lt
      split at h
      · simp at h
      · rename_i h1
        rw [if_neg h1]
        split at h
        · simp at h
        · rename_i h2
          rw [if_neg h2]
          split at h
          · rename_i h3
            rw [if_pos h3]
            refine ⟨_, rfl, i + 1, rfl, by omega, by simp, ?_⟩
            unfold grp
            rw [show (n * 128 + b.toNat % 128) / 128 = n by omega, hp, show i + 1 - i = 1 by omega]
            simp only [List.take_succ_cons, List.take_zero]
            congr 2
            apply UInt8.toNat_inj.1
            rw [toNat_ofNat (by omega)]
            omega
          · rename_i h3
            rw [if_neg h3]
            have hn0 : n * 128 + b.toNat % 128 ≠ 0 := by
              intro z
              have : n = 0 := by omega
              exact h1 ⟨hz.2 this, by omega⟩
            have hh : hi (n * 128 + b.toNat % 128) = pre ++ [b] := by
              rw [hi_pos hn0, show (n * 128 + b.toNat % 128) / 128 = n by omega, hp]
              congr 2
              apply UInt8.toNat_inj.1
              rw [toNat_ofNat (by omega)]
              omega
            obtain ⟨m, e1, j, e2, hj1, hj2, e3⟩ := ih (n * 128 + b.toNat % 128) (pre ++ [b]) r (i + 1) (by simp; omega) hh (by omega) h
            refine ⟨m, e1, j, e2, by omega, by simp; omega, ?_⟩
            rw [e3, List.append_assoc]
            congr 1
            rw [show j - i = (j - (i + 1)) + 1 by omega, List.take_succ_cons]
            rfl
theorem rdG_inv (most : Int) (l : List UInt8) (h : (rdG most l).2.2 = 0) : ∃ m j : Nat, (rdG most l).1 = (m : Int) ∧ (rdG most l).2.1 = (j : Int) ∧ j ≤ l.length ∧ grp m = l.take j := by
  obtain ⟨m, e1, j, e2, _, h2, e3⟩ := pg_inv most 9 0 [] l 0 rfl hi_zero (by simp) h
  exact ⟨m, j, e1, e2, by simpa using h2, by simpa using e3⟩
end Go.Proofs.YtipenplplmdclaaDoor.OctF
end
section
namespace Go.Proofs.YtipenplplmdclaaDoor.OctF
open Go Go.RowKit Go.Proofs.YtipenplplmdclaaDoor.Px Go.Proofs.YtipenplplmdclaaDoorW.PrintWords Go.Proofs.YtipenplplmdclaaDoor.Str
def pout (S : ByteArray) (A : Nat) (g : Int × Int × Int) : Int × ByteArray × Int × Int := (g.1, S, if g.2.2 = 0 then (A : Int) + g.2.1 else (A : Int), g.2.2)
theorem ref_groups_l0 (S : ByteArray) (hS : S.size ≤ 1073741824) (most : Int) (A : Nat) (d : Nat) : ∀ (i n : Nat), i + d = 9 → A + i ≤ S.size → n < 128 ^ i → Ev (fun k => uR_Groups.l0 k most (n : Int) (i : Int) S (A : Int) 0) (pout S A (pg most d n (S.data.toList.drop (A + i)) i)) := by
  induction d with
  | zero =>
    intro i n hi hA hn
    refine Ev.step (f := fun _ => some ((0 : Int), S, (A : Int), (3 : Int))) (fun k => ?_) (Ev.now _)
    simp only [uR_Groups.l0]
    rw [if_neg (by omega)]
  | succ d ih =>
    intro i n hi hA hn
    have hn8 : n < 72057594037927936 := Nat.lt_of_lt_of_le hn (Nat.le_trans (Nat.pow_le_pow_right (by decide) (show i ≤ 8 by omega)) (by decide))
    have hw : Hid (wrap64 ((A : Int) + (i : Int)) = ((A + i : Nat) : Int)) := Lib.hid (by rw [wrap64_id (by omega) (by omega)]; omega)
    by_cases he : A + i = S.size
    · rw [List.drop_of_length_le (by simp; omega)]
      refine Ev.step (f := fun _ => some ((0 : Int), S, (A : Int), (10 : Int))) (fun k => ?_) (Ev.now _)
      simp only [uR_Groups.l0]
      rw [if_pos (by omega), hw.out, if_pos (by omega)]
    · have hlt : A + i < S.size := by omega
      have hd : S.data.toList.drop (A + i) = S.data.toList[A + i]'(by simpa using hlt) :: S.data.toList.drop (A + i + 1) := List.drop_eq_getElem_cons (by simpa using hlt)
      have hb : bt S ((A + i : Nat) : Int) = ((S.data.toList[A + i]'(by simpa using hlt)).toNat : Int) := by
        rw [bt_L hlt]
        simp [List.getD, hlt]
      generalize S.data.toList[A + i]'(by simpa using hlt) = b at hd hb
      have hbl := b.toNat_lt
      have hn' : n * 128 + b.toNat % 128 < 128 ^ (i + 1) := by rw [Nat.pow_succ]; omega
      have hs : Hid (wrap64 (wrap64 ((n : Int) * 128) + Int.tmod (b.toNat : Int) 128) = ((n * 128 + b.toNat % 128 : Nat) : Int)) := Lib.hid (by
        have hm : Int.tmod (b.toNat : Int) 128 = ((b.toNat % 128 : Nat) : Int) := by rw [Int.tmod_eq_emod_of_nonneg (by omega)]; omega
        rw [hm, wrap64_id (x := (n : Int) * 128) (by omega) (by omega), wrap64_id (by omega) (by omega)]
        omega)
      have hj : ∀ q : Bool, q = decide (i = 0 ∧ b.toNat = 128) → Ev (fun k => uR_Groups.j1 k most (n : Int) (i : Int) (b.toNat : Int) q S (A : Int) 0) (pout S A (pg most (d + 1) n (b :: S.data.toList.drop (A + i + 1)) i)) := by
        intro q hq
        subst hq
        by_cases c1 : i = 0 ∧ b.toNat = 128
        · refine Ev.step (f := fun _ => some ((0 : Int), S, (A : Int), (3 : Int))) (fun k => ?_) ?_
          · simp only [uR_Groups.j1]
            rw [decide_eq_true c1, if_pos rfl]
          · simp only [pg]
            rw [if_pos c1]
            exact Ev.now _
        · by_cases c2 : ((n * 128 + b.toNat % 128 : Nat) : Int) > most
          · refine Ev.step (f := fun _ => some ((0 : Int), S, (A : Int), (2 : Int))) (fun k => ?_) ?_
            · simp only [uR_Groups.j1]
              rw [decide_eq_false c1, if_neg (by decide), hs.out, if_pos c2]
            · simp only [pg]
              rw [if_neg c1, if_pos c2]
              exact Ev.now _
          · by_cases c3 : b.toNat < 128
            · refine Ev.step (f := fun _ => some (((n * 128 + b.toNat % 128 : Nat) : Int), S, ((A : Int) + ((i + 1 : Nat) : Int)), (0 : Int))) (fun k => ?_) ?_
              · simp only [uR_Groups.j1]
                rw [decide_eq_false c1, if_neg (by decide), hs.out, if_neg c2, if_pos (by omega), hw.out, wrap64_id (by omega) (by omega)]
                congr 4
              · simp only [pg]
                rw [if_neg c1, if_neg c2, if_pos c3]
                exact Ev.now _
            · refine Ev.step (f := fun k => uR_Groups.l0 k most ((n * 128 + b.toNat % 128 : Nat) : Int) ((i + 1 : Nat) : Int) S (A : Int) 0) (fun k => ?_) ?_
              · simp only [uR_Groups.j1]
                rw [decide_eq_false c1, if_neg (by decide), hs.out, if_neg c2, if_neg (by omega), wrap64_id (by omega) (by omega)]
                rfl
              · simp only [pg]
                rw [if_neg c1, if_neg c2, if_neg c3]
                exact ih (i + 1) _ (by omega) (by omega) hn'
      rw [hd]
      refine Ev.step (fun k => ?_) (hj _ rfl)
      simp only [uR_Groups.l0]
      rw [if_pos (by omega), hw.out, if_neg (by omega), if_pos (by omega), if_pos (by omega), hb, wrap64_id (by omega) (by omega)]
      by_cases h0 : i = 0
      · subst h0
        rw [if_pos (by rfl)]
        congr 1
        rw [Bool.eq_iff_iff, decide_eq_true_eq, beq_iff_eq]
        omega
      · rw [if_neg (by omega), decide_eq_false (fun z => h0 z.1)]
theorem ref_groups_ev (S : ByteArray) (hS : S.size ≤ 1073741824) (most : Int) (A : Nat) (hA : A ≤ S.size) : Ev (fun k => uR_Groups.f k S (A : Int) 0 most) (pout S A (rdG most (S.data.toList.drop A))) := by
  unfold uR_Groups.f
  exact Ev.congr (fun k => by rw [if_pos rfl]; rfl) (ref_groups_l0 S hS most A 9 0 0 (by omega) (by omega) (by decide))
theorem ref_Bytes_f (S : ByteArray) (hS : S.size ≤ 1073741824) (A : Nat) (hA : A ≤ S.size) (n : Int) : uR_Bytes.f S (A : Int) 0 n = some (if n < 0 then (⟨#[]⟩, S, (A : Int), 1) else if n > ((S.data.toList.drop A).length : Int) then (⟨#[]⟩, S, (A : Int), 10) else (ofL ((S.data.toList.drop A).take n.toNat), S, (A : Int) + n, 0)) := by
  have hsl : S.data.toList.length = S.size := by simp
  unfold uR_Bytes.f
  rw [if_pos rfl]
  by_cases h0 : n < 0
  · rw [if_pos h0, if_pos h0]
  · rw [if_neg h0, if_neg h0]
    simp only [uR_Left.f, Option.bind_some]
    rw [List.length_drop, hsl, wrap64_id (by omega) (by omega)]
    by_cases h1 : n > ((S.size - A : Nat) : Int)
    · rw [if_pos (by omega), if_pos h1]
    · rw [if_neg (by omega), if_neg h1, wrap64_id (x := (A : Int) + n) (by omega) (by omega), wrap64_id (by omega) (by omega), if_pos (by omega), if_pos (by omega), if_pos (by omega)]
      congr 2
      apply ext
      rw [extract_L, ofL_L, show ((A : Int) + n - n).toNat = A by omega, show ((A : Int) + n).toNat = A + n.toNat by omega, List.drop_take]
      congr 1
      omega
end Go.Proofs.YtipenplplmdclaaDoor.OctF
end
section
namespace Go.Proofs.YtipenplplmdclaaDoor.OctF
open Go Go.RowKit Go.Proofs.YtipenplplmdclaaDoor.Px Go.Proofs.YtipenplplmdclaaDoorW.PrintWords Go.Proofs.YtipenplplmdclaaDoor.Str
def tout (S : ByteArray) (A : Nat) (most : Int) (l : List UInt8) : ByteArray × ByteArray × Int × Int :=
  if (rdG most l).2.2 = 0 then (if (rdG most l).1 > ((l.drop (rdG most l).2.1.toNat).length : Int) then (⟨#[]⟩, S, (A : Int), 10) else (ofL ((l.drop (rdG most l).2.1.toNat).take (rdG most l).1.toNat), S, (A : Int) + (rdG most l).2.1 + (rdG most l).1, 0)) else (⟨#[]⟩, S, (A : Int), (rdG most l).2.2)
theorem ref_Text_rd (S : ByteArray) (hS : S.size ≤ 1073741824) (most : Int) (A : Nat) (hA : A ≤ S.size) : Ev (fun k => uR_Text.f k S (A : Int) 0 most) (tout S A most (S.data.toList.drop A)) := by
  unfold uR_Text.f
  refine Ev.bind (ref_groups_ev S hS most A hA) ?_
  have hsl : S.data.toList.length = S.size := by simp
  obtain ⟨g0, g1, _, g3, _⟩ := rdG_long most (S.data.toList.drop A)
  rw [List.length_drop, hsl] at g1
  unfold pout tout
  simp only
  refine Ev.congr (f := fun _ => some _) (fun k => ?_) (Ev.now _)
  by_cases he : (rdG most (S.data.toList.drop A)).2.2 = 0
  · obtain ⟨j, hj⟩ : ∃ j : Nat, (rdG most (S.data.toList.drop A)).2.1 = j := ⟨_, (Int.toNat_of_nonneg g0).symm⟩
    rw [hj] at g1
    rw [if_pos he, if_pos he, he, hj, Int.toNat_natCast, show (A : Int) + (j : Int) = ((A + j : Nat) : Int) by omega, ref_Bytes_f S hS (A + j) (by omega), if_neg (by omega), ← List.drop_drop]
    by_cases hg : (rdG most (S.data.toList.drop A)).1 > (((S.data.toList.drop A).drop j).length : Int)
    · rw [if_pos hg, if_pos hg]
      rfl
    · rw [if_neg hg, if_neg hg]
      rfl
  · rw [if_neg he, if_neg he]
    unfold uR_Bytes.f
    rw [if_neg he]
    simp only [Option.bind_some]
    rw [if_neg he]
end Go.Proofs.YtipenplplmdclaaDoor.OctF
end
section
namespace Go.Proofs.YtipenplplmdclaaDoor.OctF
open Go Go.RowKit Go.Proofs.YtipenplplmdclaaDoor.Px Go.Proofs.YtipenplplmdclaaDoorW.PrintWords Go.Proofs.YtipenplplmdclaaDoor.Str
theorem join8 (n b : Nat) (hn : n < 72057594037927936) (hb : b < 256) : Go.bits .or .u64 (IntKind.u64.wrap ((n : Int) * 256)) (b : Int) = ((n * 256 + b : Nat) : Int) := by
  have hw : IntKind.u64.wrap ((n : Int) * 256) = (n : Int) * 256 := by rw [IntKind.wrap_u64]; omega
  rw [hw, bits_join .u64 64 (by decide) (fun n h0 h1 => by rw [IntKind.wrap_u64]; omega) 8 ((n : Int) * 256) (b : Int) (by omega) (by omega) (by omega) (by omega) (by omega) (by omega)]
  omega
theorem wideU_val (l : List UInt8) (h : l.length ≤ 8) : Oct.wideU (l.map fun b => (b.toNat : Int)) = (val l : Int) := by
  have key : ∀ l : List UInt8, l.length ≤ 8 → Oct.wideU (l.map fun b => (b.toNat : Int)) = (val l : Int) := fun l => by
    refine snoc_ind (Q := fun l => l.length ≤ 8 → Oct.wideU (l.map fun b => (b.toNat : Int)) = (val l : Int)) (fun _ => rfl) (fun l b ih h => ?_) l
    rw [List.length_append, List.length_singleton] at h
    have h1 := ih (by omega)
    have hv := val_lt l
    have h7 : (256 : Nat) ^ l.length ≤ 72057594037927936 := Nat.le_trans (Nat.pow_le_pow_right (by decide) (show l.length ≤ 7 by omega)) (by decide)
    unfold Oct.wideU at h1 ⊢
    rw [List.map_append, List.foldl_append, h1, val_snoc]
    exact join8 (val l) b.toNat (by omega) (by have := b.toNat_lt; omega)
  exact key l h
theorem rWide (s : ByteArray) (c w : Int) : oR_Wide.f s c w = some (if c = 0 then (if w < 1 ∨ 8 < w then (0, s, 1) else if w > (s.size : Int) then (0, s, 10) else if val (s.data.toList.take w.toNat) < 9223372036854775808 then ((val (s.data.toList.take w.toNat) : Int), ofL (s.data.toList.drop w.toNat), 0) else (0, s, 1)) else (0, s, c)) := by
  have h0 : (⟨#[]⟩ : ByteArray).size ≤ 8 := by decide
  have h0' : Oct.wideU (BR.ints ⟨#[]⟩) < 9223372036854775808 := by decide
  have h0v : Oct.wideU (BR.ints ⟨#[]⟩) = 0 := by decide
  unfold oR_Wide.f
  by_cases hc : c = 0
  · subst hc
    by_cases hw : w < 1 ∨ 8 < w
    · simp only [if_pos hw, if_true, oR_Refuse.f, Option.bind_some, rBytes, show ¬ (1 : Int) = 0 by decide, if_false]
      simp [h0, h0v]
    · simp only [if_neg hw, if_true, Option.bind_some, rBytes]
      simp only [if_neg (show ¬ w < 0 by omega)]
      by_cases hg : w > (s.size : Int)
      · simp only [if_pos hg]
        simp [h0, h0v]
      · simp only [if_neg hg]
        have hl : (s.data.toList.take w.toNat).length = w.toNat := by rw [List.length_take]; simp; omega
        have hs8 : (ofL (s.data.toList.take w.toNat)).size ≤ 8 := by rw [ofL_size, hl]; omega
        have hv : Oct.wideU (BR.ints (ofL (s.data.toList.take w.toNat))) = (val (s.data.toList.take w.toNat) : Int) := wideU_val (s.data.toList.take w.toNat) (by rw [hl]; omega)
        simp only [if_pos hs8, hv]
        by_cases hb : val (s.data.toList.take w.toNat) < 9223372036854775808
        · simp only [if_pos hb, if_pos (show (val (s.data.toList.take w.toNat) : Int) < 9223372036854775808 by omega)]
        · simp only [if_neg hb, if_neg (show ¬ (val (s.data.toList.take w.toNat) : Int) < 9223372036854775808 by omega)]
          simp [oR_Refuse.f]
  · have e : (if w < 1 ∨ 8 < w then oR_Refuse.f s c 1 else some (s, c)) = some (s, c) := by
      unfold oR_Refuse.f
      rw [if_neg hc]
      split <;> rfl
    rw [e]
    simp only [Option.bind_some, rBytes, if_neg hc]
    simp [h0, h0v]
theorem rText (s : ByteArray) (c most : Int) : oR_Text.f s c most = some (if c = 0 then (if (rdG most s.data.toList).2.2 = 0 then (if (rdG most s.data.toList).1 > ((s.data.toList.drop (rdG most s.data.toList).2.1.toNat).length : Int) then (⟨#[]⟩, s, 10) else (ofL ((s.data.toList.drop (rdG most s.data.toList).2.1.toNat).take (rdG most s.data.toList).1.toNat), ofL ((s.data.toList.drop (rdG most s.data.toList).2.1.toNat).drop (rdG most s.data.toList).1.toNat), 0)) else (⟨#[]⟩, s, (rdG most s.data.toList).2.2)) else (⟨#[]⟩, s, c)) := by
  unfold oR_Text.f
  rw [rGroups s c most 40 (by decide)]
  simp only [Option.bind_some]
  obtain ⟨_, _, _, h4, _⟩ := rdG_long most s.data.toList
  by_cases hc : c = 0
  · simp only [if_pos hc]
    by_cases he : (rdG most s.data.toList).2.2 = 0
    · simp only [he, rBytes, if_true]
      rw [if_neg (by omega), ofL_size]
      by_cases hg : (rdG most s.data.toList).1 > ((s.data.toList.drop (rdG most s.data.toList).2.1.toNat).length : Int)
      · rw [if_pos hg, if_pos hg]
        rfl
      · rw [if_neg hg, if_neg hg]
        simp only [Option.bind_some, if_true, ofL_L]
    · simp only [if_neg he, rBytes, Option.bind_some]
  · simp only [if_neg hc, rBytes, Option.bind_some]
end Go.Proofs.YtipenplplmdclaaDoor.OctF
end
section
namespace Go.Proofs.YtipenplplmdclaaDoor.OctF
open Go Go.RowKit Go.Proofs.YtipenplplmdclaaDoor.Px Go.Proofs.YtipenplplmdclaaDoorW.PrintWords Go.Proofs.YtipenplplmdclaaDoor.Str
def Rel (S s : ByteArray) (A : Nat) : Prop := A ≤ S.size ∧ s = ofL (S.data.toList.drop A)
theorem Rel.start (S : ByteArray) : Rel S S 0 := ⟨by omega, by rw [List.drop_zero, ofL_of]⟩
theorem Rel.size {S s : ByteArray} {A : Nat} (h : Rel S s A) : s.size = S.size - A := by rw [h.2, ofL_size, List.length_drop, ← size_L]
theorem Rel.list {S s : ByteArray} {A : Nat} (h : Rel S s A) : s.data.toList = S.data.toList.drop A := by rw [h.2, ofL_L]
theorem Rel.step {S s : ByteArray} {A : Nat} (h : Rel S s A) (j : Nat) (hj : A + j ≤ S.size) : Rel S (ofL (s.data.toList.drop j)) (A + j) := ⟨hj, by rw [h.list, List.drop_drop]⟩
theorem both_Groups {S s : ByteArray} {A : Nat} (hS : S.size ≤ 1073741824) (h : Rel S s A) (c n : Int) : ∃ (r : Int) (s' : ByteArray) (c' : Int) (A' : Nat), oR_Groups.f 40 s c n = some (r, s', c') ∧ (∃ k, uR_Groups.f k S (A : Int) c n = some (r, S, (A' : Int), c')) ∧ Rel S s' A' := by
  rw [rGroups s c n 40 (by decide)]
  by_cases hc : c = 0
  · subst hc
    rw [if_pos rfl]
    obtain ⟨k, hk⟩ := (ref_groups_ev S hS n A h.1).rounds
    obtain ⟨g0, g1, g2, _, _⟩ := rdG_long n (S.data.toList.drop A)
    rw [List.length_drop, ← size_L] at g1
    obtain ⟨j, hj⟩ : ∃ j : Nat, (rdG n (S.data.toList.drop A)).2.1 = j := ⟨_, (Int.toNat_of_nonneg g0).symm⟩
    have hA := h.1
    rw [h.list, hj, Int.toNat_natCast]
    refine ⟨_, _, _, A + j, rfl, ⟨k, ?_⟩, by have := h.step j (by omega); rw [h.list] at this; exact this⟩
    rw [hk]
    unfold pout
    rw [hj]
    by_cases he : (rdG n (S.data.toList.drop A)).2.2 = 0
    · rw [if_pos he]
      rfl
    · have := (g2 he).2
      rw [if_neg he, show j = 0 by omega]
      rfl
  · rw [if_neg hc]
    refine ⟨_, _, _, A, rfl, ⟨0, ?_⟩, h⟩
    unfold uR_Groups.f
    rw [if_neg hc]
theorem both_Text {S s : ByteArray} {A : Nat} (hS : S.size ≤ 1073741824) (h : Rel S s A) (c n : Int) : ∃ (r : ByteArray) (s' : ByteArray) (c' : Int) (A' : Nat), oR_Text.f s c n = some (r, s', c') ∧ (∃ k, uR_Text.f k S (A : Int) c n = some (r, S, (A' : Int), c')) ∧ Rel S s' A' := by
  rw [rText]
  by_cases hc : c = 0
  · subst hc
    rw [if_pos rfl]
    obtain ⟨k, hk⟩ := (ref_Text_rd S hS n A h.1).rounds
    obtain ⟨g0, g1, g2, g3, _⟩ := rdG_long n (S.data.toList.drop A)
    rw [List.length_drop, ← size_L] at g1
    obtain ⟨j, hj⟩ : ∃ j : Nat, (rdG n (S.data.toList.drop A)).2.1 = j := ⟨_, (Int.toNat_of_nonneg g0).symm⟩
    have hA := h.1
    unfold tout at hk
    rw [h.list]
    by_cases he : (rdG n (S.data.toList.drop A)).2.2 = 0
    · rw [if_pos he] at hk ⊢
      by_cases hg : (rdG n (S.data.toList.drop A)).1 > (((S.data.toList.drop A).drop (rdG n (S.data.toList.drop A)).2.1.toNat).length : Int)
      · rw [if_pos hg] at hk ⊢
        exact ⟨_, _, _, A, rfl, ⟨k, hk⟩, h⟩
      · rw [if_neg hg] at hk ⊢
        obtain ⟨m, hm⟩ : ∃ m : Nat, (rdG n (S.data.toList.drop A)).1 = m := ⟨_, (Int.toNat_of_nonneg g3).symm⟩
        rw [hj, hm] at hk hg ⊢
        rw [Int.toNat_natCast, Int.toNat_natCast] at hk ⊢
        rw [Int.toNat_natCast, List.length_drop, List.length_drop, ← size_L] at hg
        refine ⟨_, _, _, A + j + m, rfl, ⟨k, by rw [hk]; rfl⟩, ⟨by omega, ?_⟩⟩
        rw [List.drop_drop, List.drop_drop, Nat.add_assoc]
    · rw [if_neg he] at hk ⊢
      exact ⟨_, _, _, A, rfl, ⟨k, hk⟩, h⟩
  · rw [if_neg hc]
    refine ⟨_, _, _, A, rfl, ⟨0, ?_⟩, h⟩
    unfold uR_Text.f uR_Groups.f
    rw [if_neg hc]
    simp only [Option.bind_some]
    unfold uR_Bytes.f
    rw [if_neg hc]
    simp only [Option.bind_some]
    rw [if_neg hc]
theorem both_Wide {S s : ByteArray} {A : Nat} (hS : S.size ≤ 1073741824) (h : Rel S s A) (c n : Int) : ∃ (r : Int) (s' : ByteArray) (c' : Int) (A' : Nat), oR_Wide.f s c n = some (r, s', c') ∧ (∃ k, uR_Wide.f k S (A : Int) c n = some (r, S, (A' : Int), c')) ∧ Rel S s' A' := by
  have hA := h.1
  have hsz := h.size
  rw [rWide]
  by_cases hc : c = 0
  · subst hc
    rw [if_pos rfl]
    have bad : (n < 1 ∨ 8 < n) → ∃ k, uR_Wide.f k S (A : Int) 0 n = some (0, S, (A : Int), 1) := by
      intro hb
      refine ⟨1, ?_⟩
      unfold uR_Wide.f
      rw [if_pos rfl]
      by_cases h1 : n < 1
      · rw [if_pos h1]
        simp only [uR_Wide.j0, if_true]
      · rw [if_neg h1, decide_eq_true (by omega)]
        simp only [uR_Wide.j0, if_true]
    by_cases hb : n < 1 ∨ 8 < n
    · rw [if_pos hb]
      exact ⟨_, _, _, A, rfl, bad hb, h⟩
    · rw [if_neg hb]
      have go : ∀ k, uR_Wide.f (k + 1) S (A : Int) 0 n = if n > (S.size : Int) - A then some (0, S, (A : Int), 10) else ((gongref01_Number.f k (S.extract A (A + n.toNat))).bind fun b => if b.2 = true then some (b.1, S, ((A + n.toNat : Nat) : Int), 0) else some (0, S, (A : Int), 1)) := by
        intro k
        unfold uR_Wide.f
        rw [if_pos rfl, if_neg (by omega), decide_eq_false (by omega)]
        simp only [uR_Wide.j0]
        rw [if_neg (by decide)]
        simp only [uR_Left.f, Option.bind_some]
        rw [wrap64_id (x := (S.size : Int) - A) (by omega) (by omega)]
        by_cases h1 : n > (S.size : Int) - A
        · rw [if_pos h1, if_pos h1]
        · rw [if_neg h1, if_neg h1, wrap64_id (x := (A : Int) + n) (by omega) (by omega), if_pos (by omega), if_pos (by omega), if_pos (by omega), Int.toNat_natCast, show ((A : Int) + n).toNat = A + n.toNat by omega, show (A : Int) + n = ((A + n.toNat : Nat) : Int) by omega]
      by_cases h1 : n > (s.size : Int)
      · rw [if_pos h1]
        exact ⟨_, _, _, A, rfl, ⟨1, by rw [go 0, if_pos (by omega)]⟩, h⟩
      · rw [if_neg h1]
        have e : (S.extract A (A + n.toNat)).data.toList = s.data.toList.take n.toNat := by
          rw [extract_L, h.list, List.drop_take]
          congr 1
          omega
        obtain ⟨k, hk⟩ := (ref_Number_ev (S.extract A (A + n.toNat)) (by rw [size_L, e, List.length_take]; omega)).rounds
        rw [e] at hk
        by_cases hv : val (s.data.toList.take n.toNat) < 9223372036854775808
        · rw [if_pos hv] at hk ⊢
          refine ⟨_, _, _, A + n.toNat, rfl, ⟨k + 1, ?_⟩, h.step _ (by omega)⟩
          rw [go k, if_neg (by omega), hk]
          rfl
        · rw [if_neg hv] at hk ⊢
          refine ⟨_, _, _, A, rfl, ⟨k + 1, ?_⟩, h⟩
          rw [go k, if_neg (by omega), hk]
          rfl
  · rw [if_neg hc]
    refine ⟨_, _, _, A, rfl, ⟨0, ?_⟩, h⟩
    unfold uR_Wide.f
    rw [if_neg hc]
theorem both_Done {S s : ByteArray} {A : Nat} (h : Rel S s A) (c : Int) : ∃ r : Int, oR_Done.f s c = some (r, s, c) ∧ uR_Done.f S (A : Int) c = some (r, S, (A : Int), c) := by
  have hA := h.1
  have hsz := h.size
  unfold oR_Done.f uR_Done.f
  by_cases hc : c = 0
  · subst hc
    rw [if_pos rfl, if_pos rfl]
    by_cases h0 : A < S.size
    · rw [if_neg (by rw [toList_L]; intro z; have := congrArg List.length z; rw [← size_L, List.length_nil] at this; omega), if_pos (by omega)]
      exact ⟨_, rfl, rfl⟩
    · rw [if_pos (by rw [toList_L]; exact List.length_eq_zero_iff.mp (by rw [← size_L]; omega)), if_neg (by omega)]
      exact ⟨_, rfl, rfl⟩
  · rw [if_neg hc, if_neg hc]
    exact ⟨_, rfl, rfl⟩
end Go.Proofs.YtipenplplmdclaaDoor.OctF
end
section
namespace Go.Proofs.YtipenplplmdclaaDoor.Tkt
open Go Go.RowKit Go.Proofs.YtipenplplmdclaaDoor.Px Go.Proofs.YtipenplplmdclaaDoorW.PrintWords Go.Proofs.YtipenplplmdclaaDoor.Str Go.Proofs.YtipenplplmdclaaDoor.OctF
set_option linter.unusedSimpArgs false
set_option linter.unusedVariables false
theorem oG (s : ByteArray) (c most : Int) (hm : 0 ≤ most) (k : Nat) (hk : 19 ≤ k) : ∃ (r : Int) (s' : ByteArray) (c' : Int), oR_Groups.f k s c most = some (r, s', c') ∧ s'.size ≤ s.size ∧ 0 ≤ r ∧ r ≤ most ∧ r < 9223372036854775808 ∧ (c' = 0 → c = 0 ∧ s.data.toList = gi r ++ s'.data.toList) := by
  rw [rGroups s c most k hk]
  have hl : s.data.toList.length = s.size := by simp
  by_cases hc : c = 0
  · rw [if_pos hc]
    obtain ⟨g1, g2, g3, g4, g5⟩ := rdG_long most s.data.toList
    obtain ⟨m1, m2⟩ := rdG_most most 9 0 s.data.toList 0 hm (by decide) (by decide)
    refine ⟨_, _, _, rfl, ?_, g4, m1, m2, fun h => ⟨hc, ?_⟩⟩
    · rw [ofL_size, List.length_drop]; omega
    · obtain ⟨m, j, h1, h2, h3, h4⟩ := rdG_inv most s.data.toList h
      rw [ofL_L, h1, h2]
      simp only [gi, Int.toNat_natCast]
      rw [h4, List.take_append_drop]
  · rw [if_neg hc]
    exact ⟨_, _, _, rfl, Nat.le_refl _, by omega, hm, by omega, fun h => absurd h hc⟩
theorem oW (s : ByteArray) (c : Int) : ∃ (r : Int) (s' : ByteArray) (c' : Int), oR_Wide.f s c 1 = some (r, s', c') ∧ s'.size ≤ s.size ∧ 0 ≤ r ∧ r < 256 ∧ (c' = 0 → c = 0 ∧ s.data.toList = UInt8.ofNat r.toNat :: s'.data.toList) := by
  rw [rWide s c 1]
  have hl : s.data.toList.length = s.size := by simp
  by_cases hc : c = 0
  · rw [if_pos hc, if_neg (by omega)]
    by_cases h1 : (1 : Int) > (s.size : Int)
    · rw [if_pos h1]
      exact ⟨_, _, _, rfl, Nat.le_refl _, by omega, by omega, fun h => absurd h (by decide)⟩
    · rw [if_neg h1]
      cases hs : s.data.toList with
      | nil => rw [hs] at hl; simp at hl; omega
      | cons b t =>
        have hv : val ([b] : List UInt8) = b.toNat := by simp [val]
        have e : (b :: t).take (1 : Int).toNat = [b] := rfl
        have e2 : (b :: t).drop (1 : Int).toNat = t := rfl
        rw [e, e2, hv, if_pos (by have := b.toNat_lt; omega)]
        refine ⟨_, _, _, rfl, ?_, by omega, by have := b.toNat_lt; omega, fun _ => ⟨hc, ?_⟩⟩
        · rw [ofL_size]
          rw [hs] at hl
          simp at hl
          omega
        · rw [ofL_L, Int.toNat_natCast]
          congr 1
          exact (UInt8.ofNat_toNat (x := b)).symm
  · rw [if_neg hc]
    exact ⟨_, _, _, rfl, Nat.le_refl _, by omega, by omega, fun h => absurd h hc⟩
theorem oT (s : ByteArray) (c most : Int) (hm : 0 ≤ most) : ∃ (r : ByteArray) (s' : ByteArray) (c' : Int), oR_Text.f s c most = some (r, s', c') ∧ s'.size ≤ s.size ∧ r.size ≤ s.size ∧ (c' = 0 → c = 0 ∧ s.data.toList = txt r ++ s'.data.toList) := by
  rw [rText s c most]
  have hl : s.data.toList.length = s.size := by simp
  have z0 : (⟨#[]⟩ : ByteArray).size = 0 := rfl
  by_cases hc : c = 0
  · rw [if_pos hc]
    by_cases he : (rdG most s.data.toList).2.2 = 0
    · rw [if_pos he]
      obtain ⟨m, j, h1, h2, h3, h4⟩ := rdG_inv most s.data.toList he
      rw [h1, h2]
      simp only [Int.toNat_natCast]
      by_cases hg : (m : Int) > ((s.data.toList.drop j).length : Int)
      · rw [if_pos hg]
        exact ⟨_, _, _, rfl, Nat.le_refl _, by rw [z0]; omega, fun h => absurd h (by decide)⟩
      · rw [if_neg hg]
        have hml : ((s.data.toList.drop j).take m).length = m := by rw [List.length_take]; omega
        refine ⟨_, _, _, rfl, ?_, ?_, fun _ => ⟨hc, ?_⟩⟩
        · rw [ofL_size, List.length_drop, List.length_drop]; omega
        · rw [ofL_size, hml, ← hl]; rw [List.length_drop] at hg; omega
        · rw [txt, ofL_size, hml, ofL_L, ofL_L, h4, List.append_assoc, List.take_append_drop, List.take_append_drop]
    · rw [if_neg he]
      exact ⟨_, _, _, rfl, Nat.le_refl _, by rw [z0]; omega, fun h => absurd h he⟩
  · rw [if_neg hc]
    exact ⟨_, _, _, rfl, Nat.le_refl _, by rw [z0]; omega, fun h => absurd h hc⟩
theorem oGf {m most : Int} (h0 : 0 ≤ m) (hm : m ≤ most) (h1 : m < 9223372036854775808) (r : List UInt8) {k : Nat} (hk : 19 ≤ k) : oR_Groups.f k (ofL (gi m ++ r)) 0 most = some (m, ofL r, 0) := by
  rw [rGroups _ 0 most k hk, if_pos rfl, ofL_L]
  have := rdG_grp most m.toNat r (by omega) (by omega)
  rw [show gi m = grp m.toNat from rfl, this]
  simp only [Int.toNat_natCast, List.drop_left']
  rw [Int.toNat_of_nonneg h0]
theorem oWf (b : UInt8) (r : List UInt8) : oR_Wide.f (ofL (b :: r)) 0 1 = some ((b.toNat : Int), ofL r, 0) := by
  rw [rWide, if_pos rfl, if_neg (by omega), ofL_L, if_neg (by rw [ofL_size, List.length_cons]; omega)]
  have hv : val ((b :: r).take (1 : Int).toNat) = b.toNat := by show val [b] = _; simp [val]
  rw [hv, if_pos (by have := b.toNat_lt; omega)]
  rfl
theorem oTf {t : ByteArray} {most : Int} (hm : (t.size : Int) ≤ most) (ht : t.size ≤ 100000) (r : List UInt8) : oR_Text.f (ofL (txt t ++ r)) 0 most = some (t, ofL r, 0) := by
  have hl : t.data.toList.length = t.size := by simp
  rw [rText, if_pos rfl, ofL_L]
  have e : txt t ++ r = grp t.size ++ (t.data.toList ++ r) := by rw [txt, List.append_assoc]
  have := rdG_grp most t.size (t.data.toList ++ r) hm (by omega)
  rw [e, this]
  simp only [if_true, Int.toNat_natCast]
  rw [List.drop_left' rfl, if_neg (by rw [List.length_append]; omega), List.take_left' hl, List.drop_left' hl, ofL_of]
theorem oBf (s : ByteArray) : oR_Bytes.f s 0 (s.size : Int) = some (s, ofL [], 0) := by
  have hl : s.data.toList.length = s.size := by simp
  rw [rBytes, if_pos rfl, if_neg (by omega), if_neg (by omega), Int.toNat_natCast, List.take_of_length_le (by omega), List.drop_of_length_le (by omega), ofL_of]
theorem oB (s : ByteArray) (c : Int) : ∃ (r s' : ByteArray) (c' : Int), oR_Bytes.f s c (s.size : Int) = some (r, s', c') ∧ r.size ≤ s.size ∧ s'.size ≤ s.size ∧ (c' = 0 → c = 0 ∧ r = s ∧ s'.data.toList = []) := by
  by_cases hc : c = 0
  · subst hc
    exact ⟨_, _, _, oBf s, Nat.le_refl _, Nat.zero_le _, fun _ => ⟨rfl, rfl, rfl⟩⟩
  · rw [rBytes, if_neg hc]
    exact ⟨_, _, _, rfl, Nat.zero_le _, Nat.le_refl _, fun h => absurd h hc⟩
theorem oD (s : ByteArray) (c : Int) : ∃ r : Int, oR_Done.f s c = some (r, s, c) ∧ (r = 0 → c = 0 ∧ s.data.toList = []) := by
  unfold oR_Done.f
  by_cases hc : c = 0
  · rw [if_pos hc]
    by_cases hs : s.toList = []
    · rw [if_pos hs]
      exact ⟨_, rfl, fun h => ⟨h, by rw [toList_L] at hs; exact hs⟩⟩
    · rw [if_neg hs]
      exact ⟨_, rfl, fun h => absurd h (by decide)⟩
  · rw [if_neg hc]
    exact ⟨_, rfl, fun h => absurd h hc⟩
theorem oDf : oR_Done.f (ofL []) 0 = some (0, ofL [], 0) := by
  unfold oR_Done.f
  rw [if_pos rfl, if_pos (by rw [toList_L]; rfl)]
theorem bG {S s : ByteArray} {A : Nat} (hS : S.size ≤ 1073741824) (h : Rel S s A) {c n r : Int} {s' : ByteArray} {c' : Int} {k : Nat} (hk : 19 ≤ k) (ho : oR_Groups.f k s c n = some (r, s', c')) : ∃ A' : Nat, Ev (fun k => uR_Groups.f k S (A : Int) c n) (r, S, (A' : Int), c') ∧ Rel S s' A' := by
  obtain ⟨r2, s2, c2, A', h1, ⟨k2, h2⟩, h3⟩ := both_Groups hS h c n
  rw [rGroups s c n 40 (by decide), ← rGroups s c n k hk, ho] at h1
  simp only [Option.some.injEq, Prod.mk.injEq] at h1
  obtain ⟨rfl, rfl, rfl⟩ := h1
  exact ⟨A', Ev.of (fun k => uR_Groups.mono _ _ _ _ k) h2, h3⟩
theorem bW {S s : ByteArray} {A : Nat} (hS : S.size ≤ 1073741824) (h : Rel S s A) {c n r : Int} {s' : ByteArray} {c' : Int} (ho : oR_Wide.f s c n = some (r, s', c')) : ∃ A' : Nat, Ev (fun k => uR_Wide.f k S (A : Int) c n) (r, S, (A' : Int), c') ∧ Rel S s' A' := by
  obtain ⟨r2, s2, c2, A', h1, ⟨k2, h2⟩, h3⟩ := both_Wide hS h c n
  rw [ho] at h1
  simp only [Option.some.injEq, Prod.mk.injEq] at h1
  obtain ⟨rfl, rfl, rfl⟩ := h1
  exact ⟨A', Ev.of (fun k => uR_Wide.mono _ _ _ _ k) h2, h3⟩
theorem bT {S s : ByteArray} {A : Nat} (hS : S.size ≤ 1073741824) (h : Rel S s A) {c n : Int} {r : ByteArray} {s' : ByteArray} {c' : Int} (ho : oR_Text.f s c n = some (r, s', c')) : ∃ A' : Nat, Ev (fun k => uR_Text.f k S (A : Int) c n) (r, S, (A' : Int), c') ∧ Rel S s' A' := by
  obtain ⟨r2, s2, c2, A', h1, ⟨k2, h2⟩, h3⟩ := both_Text hS h c n
  rw [ho] at h1
  simp only [Option.some.injEq, Prod.mk.injEq] at h1
  obtain ⟨rfl, rfl, rfl⟩ := h1
  exact ⟨A', Ev.of (fun k => uR_Text.mono _ _ _ _ k) h2, h3⟩
theorem bD {S s : ByteArray} {A : Nat} (h : Rel S s A) {c r : Int} (ho : oR_Done.f s c = some (r, s, c)) : uR_Done.f S (A : Int) c = some (r, S, (A : Int), c) := by
  obtain ⟨r2, h1, h2⟩ := both_Done h c
  rw [ho] at h1
  simp only [Option.some.injEq, Prod.mk.injEq] at h1
  obtain ⟨rfl, _⟩ := h1
  exact h2
end Go.Proofs.YtipenplplmdclaaDoor.Tkt
end
section
namespace Go.Proofs.YtipenplplmdclaaDoor.Tkt
open Go Go.RowKit Go.Proofs.YtipenplplmdclaaDoor.Px Go.Proofs.YtipenplplmdclaaDoorW.PrintWords Go.Proofs.YtipenplplmdclaaDoor.Str Go.Proofs.YtipenplplmdclaaDoor.OctF Go.Proofs.YtipenplplmdclaaDoor.CrcB
set_option linter.unusedSimpArgs false
set_option linter.unusedVariables false
def opnR (l : List UInt8) (b : UInt8) : ByteArray × Int × Bool := if 4 ≤ l.length ∧ run all l = residue ∧ (l.take (l.length - 4)).take 1 = [b] then (ofL ((l.take (l.length - 4)).drop 1), 0, true) else (⟨#[]⟩, 0, false)
theorem topen_f (s : ByteArray) (b : UInt8) (hs : s.size ≤ 1000000) : ticket_open.f s (⟨#[b]⟩ : ByteArray) = some (opnR s.data.toList b) := by
  have hl : s.data.toList.length = s.size := by simp
  have h1 : (⟨#[b]⟩ : ByteArray).size = 1 := rfl
  have hbl : (⟨#[b]⟩ : ByteArray).toList = [b] := by rw [toList_L]
  unfold ticket_open.f opnR
  rw [open_f s (by omega), Option.bind_some, h1, hbl]
  by_cases c : 4 ≤ s.size ∧ run all s.data.toList = residue
  · have hx : (s.extract 0 (s.size - 4)).data.toList = s.data.toList.take (s.size - 4) := pre_L s _
    have hxs : (s.extract 0 (s.size - 4)).size = s.size - 4 := by rw [size_L, hx, List.length_take, hl]; omega
    rw [if_pos c]
    simp only [Bool.true_eq_false, if_false]
    rw [hxs, hl]
    by_cases c1 : s.size - 4 < 1
    · rw [if_pos c1, if_neg]
      rintro ⟨_, _, c2⟩
      have := congrArg List.length c2
      simp at this
      omega
    · rw [if_neg c1, toList_L, pre_L, hx]
      by_cases c2 : (s.data.toList.take (s.size - 4)).take 1 = [b]
      · rw [if_pos c2, if_pos ⟨c.1, c.2, c2⟩]
        congr 2
        apply ext
        have := post_L (s.extract 0 (s.size - 4)) 1
        rw [hxs, hx] at this
        rw [this, ofL_L]
      · rw [if_neg c2, if_neg (fun z => c2 z.2.2)]
  · rw [if_neg c, if_pos rfl, if_neg (fun z => c ⟨by have := z.1; omega, z.2.1⟩)]
theorem opnR_tag (l : List UInt8) (b c : UInt8) : opnR (tagL (c :: l)) b = if c = b then (ofL l, 0, true) else (⟨#[]⟩, 0, false) := by
  have hlen := tagL_length (c :: l)
  have ht : (tagL (c :: l)).take ((tagL (c :: l)).length - 4) = c :: l := by
    rw [hlen, Nat.add_sub_cancel]
    show ((c :: l) ++ _).take _ = _
    rw [List.take_left']
    rfl
  unfold opnR
  rw [ht, run_tagL]
  by_cases hc : c = b
  · subst hc
    rw [if_pos ⟨by rw [hlen]; omega, rfl, rfl⟩, if_pos rfl]
    rfl
  · rw [if_neg (fun z => hc (by simpa using z.2.2)), if_neg hc]
def ackR (l : List UInt8) : Int × Int := match opnR l 65 with
  | (s, _, ok) => if ok = true then (if (rdG 1152921504606846976 s.data.toList).2.2 = 0 ∧ s.data.toList.drop (rdG 1152921504606846976 s.data.toList).2.1.toNat = [] ∧ 1 ≤ (rdG 1152921504606846976 s.data.toList).1 then ((rdG 1152921504606846976 s.data.toList).1, 0) else (0, 230)) else (0, 230)
theorem opnR_code (l : List UInt8) (b : UInt8) : (opnR l b).2.1 = 0 := by unfold opnR; split <;> rfl
theorem tacked_k (s : ByteArray) (hs : s.size ≤ 1000000) (k : Nat) (hk : 19 ≤ k) : ticket_Acked.f k s = some (ackR s.data.toList) := by
  unfold ticket_Acked.f ackR
  rw [topen_f s 65 hs, Option.bind_some]
  have hc := opnR_code s.data.toList 65
  generalize opnR s.data.toList 65 = o at hc
  obtain ⟨t, c, ok⟩ := o
  simp only at hc
  subst hc
  simp only
  cases ok with
  | false => simp
  | true =>
    simp only [if_true]
    rw [rGroups t 0 _ k hk, Option.bind_some]
    simp only [if_true]
    obtain ⟨g1, g2, g3, g4, g5⟩ := rdG_long 1152921504606846976 t.data.toList
    by_cases h0 : (rdG 1152921504606846976 t.data.toList).2.2 = 0
    · by_cases hd : t.data.toList.drop (rdG 1152921504606846976 t.data.toList).2.1.toNat = []
      · by_cases h1 : (rdG 1152921504606846976 t.data.toList).1 < 1
        · simp [oR_Done.f, toList_L, h0, hd, h1, show ¬ (1 ≤ (rdG 1152921504606846976 t.data.toList).1) by omega]
        · simp [oR_Done.f, toList_L, h0, hd, h1, show 1 ≤ (rdG 1152921504606846976 t.data.toList).1 by omega]
      · simp [oR_Done.f, oR_Refuse.f, toList_L, h0, hd]
    · simp [oR_Done.f, oR_Refuse.f, toList_L, h0]
theorem tacked_ev (s : ByteArray) (hs : s.size ≤ 1000000) : Ev (fun k => ticket_Acked.f k s) (ackR s.data.toList) := ⟨19, fun k hk => tacked_k s hs k hk⟩
theorem ackR_ack (n : Int) (h0 : 1 ≤ n) (h1 : n ≤ 1152921504606846976) : ackR (tagL (ackL n)) = (n, 0) := by
  unfold ackR ackL
  rw [opnR_tag, if_pos rfl]
  simp only [if_true, ofL_L]
  have hr := rdG_grp 1152921504606846976 n.toNat [] (by omega) (by omega)
  rw [List.append_nil] at hr
  show (if (rdG 1152921504606846976 (gi n)).2.2 = 0 ∧ (gi n).drop (rdG 1152921504606846976 (gi n)).2.1.toNat = [] ∧ 1 ≤ (rdG 1152921504606846976 (gi n)).1 then ((rdG 1152921504606846976 (gi n)).1, (0 : Int)) else (0, 230)) = (n, 0)
  rw [show rdG 1152921504606846976 (gi n) = _ from hr]
  simp only [Int.toNat_natCast]
  rw [if_pos ⟨trivial, by unfold gi; simp, by omega⟩]
  congr 1
  omega
theorem works_ev : Ev (fun k => gonglaw23_works.f k) true := by
  obtain ⟨K1, h1⟩ := tack_ev 1
  have e1 : ackB 1 = true := rfl
  have e2 : ackL 1 = [65, 1] := by
    have : grp 1 = [1] := by rw [grp, hi]; rfl
    show 65 :: grp 1 = _
    rw [this]
  obtain ⟨K2, h2⟩ := tacked_ev (ofL (tagL (ackL 1))) (by rw [ofL_size, tagL_length, e2]; decide)
  rw [ofL_L, ackR_ack 1 (by decide) (by decide)] at h2
  refine ⟨K1 + K2, fun k hk => ?_⟩
  have ht : crc_Tag.f (⟨#[65, 1]⟩ : ByteArray) = some (ofL (tagL (ackL 1))) := by
    rw [e2]
    exact tag_f (⟨#[65, 1]⟩ : ByteArray) (by decide)
  simp only [gonglaw23_works.f, h1 k (by omega), e1, if_true, Option.bind_some, h2 k (by omega), ht]
  rfl
end Go.Proofs.YtipenplplmdclaaDoor.Tkt
end
section
namespace Go.Proofs.YtipenplplmdclaaDoor.Tkt
open Go Go.RowKit Go.Proofs.YtipenplplmdclaaDoor.Px Go.Proofs.YtipenplplmdclaaDoorW.PrintWords Go.Proofs.YtipenplplmdclaaDoor.Str Go.Proofs.YtipenplplmdclaaDoor.OctF Go.Proofs.YtipenplplmdclaaDoor.CrcB
set_option linter.unusedSimpArgs false
set_option linter.unusedVariables false
theorem plB_size {s : ByteArray} {m : Int} (h : plB s m = true) : (s.size : Int) ≤ m := by
  unfold plB at h
  split at h
  · simp only [Bool.and_eq_true, decide_eq_true_eq] at h
    exact h.2
  · cases h
theorem evB_sizes {a b c : ByteArray} {n : Int} {d : ByteArray} (h : evB a b c n d = true) : a.size ≤ 64 ∧ b.size ≤ 64 ∧ c.size ≤ 128 ∧ d.size ≤ 1024 := by
  simp only [evB, Bool.and_eq_true] at h
  obtain ⟨_, _, h1, h2, h3, h4, _⟩ := h
  have := plB_size h1
  have := plB_size h2
  have := plB_size h3
  have := plB_size h4
  omega
theorem row_who {ak : Bool} {y : ByteArray} (h : (if ak = true then whoB y else decide (y.toList = [])) = true) : y.size ≤ 64 := by
  cases ak with
  | true =>
    simp only [if_true, whoB, Bool.and_eq_true] at h
    have := plB_size h.2
    omega
  | false =>
    simp only [Bool.false_eq_true, if_false, decide_eq_true_eq, toList_L] at h
    have : y.data.toList.length = y.size := by simp
    rw [h] at this
    simp at this
    omega
theorem ndec_fwd {a b c : ByteArray} {n : Int} {d : ByteArray} (h : evB a b c n d = true) : Ev (fun k => norm_Decode.f k (ofL (evL a b c n d))) (a, b, c, n, d, 0) := by
  have hn := evB_n h
  obtain ⟨s1, s2, s3, s4⟩ := evB_sizes h
  obtain ⟨K, hK⟩ := ncheck_ev a b c n d (by omega) (by omega) (by omega) (by omega)
  refine ⟨K + 19, fun k hk => ?_⟩
  have e1 := oTf (t := a) (most := 64) (by omega) (by omega) (txt b ++ (txt c ++ (txt d ++ gi n)))
  have e2 := oTf (t := b) (most := 64) (by omega) (by omega) (txt c ++ (txt d ++ gi n))
  have e3 := oTf (t := c) (most := 128) (by omega) (by omega) (txt d ++ gi n)
  have e4 := oTf (t := d) (most := 1024) (by omega) (by omega) (gi n)
  have e5 := oGf (m := n) (most := 5) hn.1 hn.2 (by omega) [] (show 19 ≤ k by omega)
  rw [List.append_nil] at e5
  simp only [norm_Decode.f, octet_Read.f, evL, Option.bind_some, e1, e2, e3, e4, e5, oDf, if_true, hK k (by omega), h]
theorem ndec_ev (s : ByteArray) (hs : s.size ≤ 100000) : ∃ v : ByteArray × ByteArray × ByteArray × Int × ByteArray × Int, Ev (fun k => norm_Decode.f k s) v ∧
    (v = (⟨#[]⟩, ⟨#[]⟩, ⟨#[]⟩, 0, ⟨#[]⟩, 180) ∨ ∃ a b c n d, v = (a, b, c, n, d, 0) ∧ evB a b c n d = true ∧ s.data.toList = evL a b c n d) := by
  obtain ⟨a, s1, c1, e1, z1, y1, f1⟩ := oT s 0 64 (by decide)
  obtain ⟨b, s2, c2, e2, z2, y2, f2⟩ := oT s1 c1 64 (by decide)
  obtain ⟨c, s3, c3, e3, z3, y3, f3⟩ := oT s2 c2 128 (by decide)
  obtain ⟨d, s4, c4, e4, z4, y4, f4⟩ := oT s3 c3 1024 (by decide)
  have hG : ∃ (n : Int) (s5 : ByteArray) (c5 : Int), (∀ k, 19 ≤ k → oR_Groups.f k s4 c4 5 = some (n, s5, c5)) ∧ s5.size ≤ s4.size ∧ (c5 = 0 → c4 = 0 ∧ s4.data.toList = gi n ++ s5.data.toList) := by
    obtain ⟨n, s5, c5, e5, z5, _, _, _, f5⟩ := oG s4 c4 5 (by decide) 19 (by decide)
    exact ⟨n, s5, c5, fun k hk => by rw [rGroups _ _ _ k hk, ← rGroups _ _ _ 19 (by decide)]; exact e5, z5, f5⟩
  obtain ⟨n, s5, c5, e5, z5, f5⟩ := hG
  obtain ⟨r, e6, f6⟩ := oD s5 c5
  by_cases hr : r = 0
  · obtain ⟨g5, g6⟩ := f6 hr
    obtain ⟨g4, q4⟩ := f5 g5
    obtain ⟨g3, q3⟩ := f4 g4
    obtain ⟨g2, q2⟩ := f3 g3
    obtain ⟨g1, q1⟩ := f2 g2
    obtain ⟨_, q0⟩ := f1 g1
    obtain ⟨K, hK⟩ := ncheck_ev a b c n d (by omega) (by omega) (by omega) (by omega)
    rcases Bool.eq_false_or_eq_true (evB a b c n d) with h | h
    · refine ⟨(a, b, c, n, d, 0), ⟨K + 19, fun k hk => ?_⟩, .inr ⟨a, b, c, n, d, rfl, h, ?_⟩⟩
      · simp only [norm_Decode.f, octet_Read.f, Option.bind_some, e1, e2, e3, e4, e5 k (by omega), e6, hr, if_true, hK k (by omega), h]
      · rw [q0, q1, q2, q3, q4, g6, List.append_nil]
        rfl
    · refine ⟨_, ⟨K + 19, fun k hk => ?_⟩, .inl rfl⟩
      simp only [norm_Decode.f, octet_Read.f, Option.bind_some, e1, e2, e3, e4, e5 k (by omega), e6, hr, if_true, hK k (by omega), h]
      rfl
  · refine ⟨_, ⟨19, fun k hk => ?_⟩, .inl rfl⟩
    simp only [norm_Decode.f, octet_Read.f, Option.bind_some, e1, e2, e3, e4, e5 k (by omega), e6, hr, if_false]
abbrev Tup := Int × Int × Int × ByteArray × ByteArray × ByteArray × Int × ByteArray × Int × Int × Int × Bool × ByteArray × Int
def zT : Tup := (0, 0, 0, ⟨#[]⟩, ⟨#[]⟩, ⟨#[]⟩, 0, ⟨#[]⟩, 0, 0, 0, false, ⟨#[]⟩, 230)
theorem u8_of {w : Int} (h0 : 0 ≤ w) (h1 : w < 256) : (((UInt8.ofNat w.toNat).toNat : Nat) : Int) = w := by
  rw [UInt8.toNat_ofNat']
  omega
theorem akL_cons (ak : Bool) (r : List UInt8) : akL ak ++ r = UInt8.ofNat (if ak = true then 1 else 0) :: r := by cases ak <;> rfl
theorem tag_form {l : List UInt8} (h4 : 4 ≤ l.length) (hr : run all l = residue) {m : List UInt8} (hm : l.take (l.length - 4) = m) : l = tagL m := by
  rw [← hm]
  exact ((owns_iff l h4).2 hr).symm
theorem tdec_fwd {q w id : Int} {a b c : ByteArray} {n : Int} {d : ByteArray} {ta f l : Int} {ak : Bool} {y : ByteArray} (hid : id < 9223372036854775808) (h : tkB q w id a b c n d ta f l ak y = true) :
    Ev (fun k => ticket_Decode.f k (ofL (tagL (msgL q w id a b c n d ta f l ak y)))) (q, w, id, a, b, c, n, d, ta, f, l, ak, y, 0) := by
  obtain ⟨q1, q2, q3, q4, hr⟩ := tkB_iff.1 h
  obtain ⟨r1, r2, r3, r4, r5, r6, r7⟩ := rowB_iff.1 hr
  obtain ⟨t1, t2, t3, t4, t5⟩ := timesB_iff.1 r5
  obtain ⟨s1, s2, s3, s4⟩ := evB_sizes r7
  have s5 := row_who r6
  have hpl := payL_len (w := w) (show a.size ≤ 100000 by omega) (show b.size ≤ 100000 by omega) (show c.size ≤ 100000 by omega) (show d.size ≤ 100000 by omega) (show y.size ≤ 100000 by omega) hid hr
  have hgl := gi_len (show 0 ≤ q by omega) (show q < 9223372036854775808 by omega)
  obtain ⟨K1, h1⟩ := ndec_fwd r7
  obtain ⟨K2, h2⟩ := tcheck_ev q w id a b c n d ta f l ak y (by omega) (by omega) (by omega) (by omega) (by omega)
  refine ⟨K1 + K2 + 19, fun k hk => ?_⟩
  have ho := topen_f (ofL (tagL (msgL q w id a b c n d ta f l ak y))) 71 (by rw [ofL_size, tagL_length]; simp only [msgL, List.length_cons, List.length_append]; omega)
  rw [ofL_L, msgL, opnR_tag, if_pos rfl] at ho
  have hk19 : 19 ≤ k := by omega
  have e1 := oGf (m := q) (most := 1152921504606846976) (by omega) q2 (by omega) (payL w id a b c n d ta f l ak y) hk19
  have e2 := oWf (UInt8.ofNat w.toNat) (rowL id a b c n d ta f l ak y)
  rw [u8_of (by omega) (by omega)] at e2
  have e3 := oGf (m := id) (most := 9223372036854775807) (by omega) (by omega) hid (gi ta ++ (gi f ++ (gi l ++ (akL ak ++ (txt y ++ evL a b c n d))))) hk19
  have e4 := oGf (m := ta) (most := 1099511627776) (by omega) r4 (by omega) (gi f ++ (gi l ++ (akL ak ++ (txt y ++ evL a b c n d)))) hk19
  have e5 := oGf (m := f) (most := 2305843009213693952) t1 t2 (by omega) (gi l ++ (akL ak ++ (txt y ++ evL a b c n d))) hk19
  have e6 := oGf (m := l) (most := 2305843009213693952) t3 t4 (by omega) (akL ak ++ (txt y ++ evL a b c n d)) hk19
  have e7 := oWf (UInt8.ofNat (if ak = true then 1 else 0)) (txt y ++ evL a b c n d)
  rw [← akL_cons] at e7
  have e8 := oTf (t := y) (most := 64) (by omega) (by omega) (evL a b c n d)
  have e9 := oBf (ofL (evL a b c n d))
  have hak : (((UInt8.ofNat (if ak = true then 1 else 0)).toNat : Int) == 1) = ak ∧ ¬ ((UInt8.ofNat (if ak = true then 1 else 0)).toNat : Int) > 1 := by cases ak <;> decide
  simp only [payL, rowL] at ho e1 e2
  simp only [msgL, payL, rowL, ticket_Decode.f, ho, Option.bind_some, if_true, e1, e2, e3, e4, e5, e6, e7, e8, oR_Left.f, e9, h1 k (by omega), oDf, hak.1, hak.2, if_false, h2 k (by omega), h]
theorem tdec_ev (s : ByteArray) (hs : s.size ≤ 100000) : ∃ v : Tup, Ev (fun k => ticket_Decode.f k s) v ∧
    (v = zT ∨ ∃ q w id a b c n d ta f l ak y, v = (q, w, id, a, b, c, n, d, ta, f, l, ak, y, 0) ∧ id < 9223372036854775808 ∧ tkB q w id a b c n d ta f l ak y = true ∧ s.data.toList = tagL (msgL q w id a b c n d ta f l ak y)) := by
  have ho := topen_f s 71 (by omega)
  have hl : s.data.toList.length = s.size := by simp
  by_cases hop : 4 ≤ s.data.toList.length ∧ run all s.data.toList = residue ∧ (s.data.toList.take (s.data.toList.length - 4)).take 1 = [71]
  case neg =>
    refine ⟨zT, ⟨0, fun k _ => ?_⟩, .inl rfl⟩
    rw [opnR, if_neg hop] at ho
    simp only [ticket_Decode.f, ho, Option.bind_some, Bool.false_eq_true, if_false]
    rfl
  rw [opnR, if_pos hop] at ho
  obtain ⟨p1, p2, p3⟩ := hop
  generalize hm : s.data.toList.take (s.data.toList.length - 4) = m at ho p3
  have hml : m.length ≤ 100000 := by rw [← hm, List.length_take]; omega
  have hst := tag_form p1 p2 hm
  have hm71 : m = 71 :: m.drop 1 := by
    cases m with
    | nil => simp at p3
    | cons x t => simp only [List.take_succ_cons, List.take_zero, List.cons.injEq, and_true] at p3; subst p3; rfl
  generalize m.drop 1 = m1 at hm71 ho
  have hm1 : m1.length ≤ 100000 := by rw [hm71] at hml; simp only [List.length_cons] at hml; omega
  have G : ∀ (s : ByteArray) (c most : Int), 0 ≤ most → ∃ (r : Int) (s' : ByteArray) (c' : Int), (∀ k, 19 ≤ k → oR_Groups.f k s c most = some (r, s', c')) ∧ s'.size ≤ s.size ∧ r < 9223372036854775808 ∧ (c' = 0 → c = 0 ∧ s.data.toList = gi r ++ s'.data.toList) := by
    intro s c most hmo
    obtain ⟨r, s', c', e, z, _, _, y, g⟩ := oG s c most hmo 19 (by decide)
    exact ⟨r, s', c', fun k hk => by rw [rGroups _ _ _ k hk, ← rGroups _ _ _ 19 (by decide)]; exact e, z, y, g⟩
  have h0s : (ofL m1).size ≤ 100000 := by rw [ofL_size]; omega
  have h0L : (ofL m1).data.toList = m1 := ofL_L m1
  generalize ofL m1 = s0 at ho h0s h0L
  obtain ⟨q, s1, c1, e1, z1, _, f1⟩ := G s0 0 1152921504606846976 (by decide)
  obtain ⟨w, s2, c2, e2, z2, w0, w1, f2⟩ := oW s1 c1
  obtain ⟨id, s3, c3, e3, z3, hid, f3⟩ := G s2 c2 9223372036854775807 (by decide)
  obtain ⟨ta, s4, c4, e4, z4, _, f4⟩ := G s3 c3 1099511627776 (by decide)
  obtain ⟨f, s5, c5, e5, z5, _, f5⟩ := G s4 c4 2305843009213693952 (by decide)
  obtain ⟨l, s6, c6, e6, z6, _, f6⟩ := G s5 c5 2305843009213693952 (by decide)
  obtain ⟨ak, s7, c7, e7, z7, a0, a1, f7⟩ := oW s6 c6
  obtain ⟨y, s8, c8, e8, z8, hy, f8⟩ := oT s7 c7 64 (by decide)
  obtain ⟨u, s9, c9, e9, hu, z9, f9⟩ := oB s8 c8
  obtain ⟨v, ⟨K1, h1⟩, hv⟩ := ndec_ev u (by omega)
  obtain ⟨r, e10, f10⟩ := oD s9 c9
  have hwalk : ∀ k, K1 + 19 ≤ k → ticket_Decode.f k s = (if r = 0 then (if v.2.2.2.2.2 = 0 then (if ak > 1 then some zT else ((ticket_Check.f k q w id v.1 v.2.1 v.2.2.1 v.2.2.2.1 v.2.2.2.2.1 ta f l (ak == 1) y).bind fun t => (if t = 0 then (some (q, w, id, v.1, v.2.1, v.2.2.1, v.2.2.2.1, v.2.2.2.2.1, ta, f, l, (ak == 1), y, 0)) else some zT))) else some zT) else some zT) := by
    intro k hk
    simp only [ticket_Decode.f, ho, Option.bind_some, if_true, e1 k (by omega), e2, e3 k (by omega), e4 k (by omega), e5 k (by omega), e6 k (by omega), e7, e8, oR_Left.f, e9, h1 k (by omega), e10]
    rfl
  by_cases hr : r = 0
  case neg =>
    refine ⟨zT, ⟨K1 + 19, fun k hk => ?_⟩, .inl rfl⟩
    show ticket_Decode.f k s = _
    rw [hwalk k hk, if_neg hr]
  obtain ⟨g9, n9⟩ := f10 hr
  obtain ⟨g8, n8, _⟩ := f9 g9
  obtain ⟨g7, n7⟩ := f8 g8
  obtain ⟨g6, n6⟩ := f7 g7
  obtain ⟨g5, n5⟩ := f6 g6
  obtain ⟨g4, n4⟩ := f5 g5
  obtain ⟨g3, n3⟩ := f4 g4
  obtain ⟨g2, n2⟩ := f3 g3
  obtain ⟨g1, n1⟩ := f2 g2
  obtain ⟨_, n0⟩ := f1 g1
  rcases hv with rfl | ⟨a, b, c, n, d, rfl, hev, hul⟩
  · refine ⟨zT, ⟨K1 + 19, fun k hk => ?_⟩, .inl rfl⟩
    show ticket_Decode.f k s = _
    rw [hwalk k hk, if_pos hr]
    rfl
  by_cases hak : ak > 1
  · refine ⟨zT, ⟨K1 + 19, fun k hk => ?_⟩, .inl rfl⟩
    show ticket_Decode.f k s = _
    rw [hwalk k hk, if_pos hr]
    simp only [if_true]
    rw [if_pos hak]
  obtain ⟨t1, t2, t3, t4⟩ := evB_sizes hev
  obtain ⟨K2, h2⟩ := tcheck_ev q w id a b c n d ta f l (ak == 1) y (by omega) (by omega) (by omega) (by omega) (by omega)
  rcases Bool.eq_false_or_eq_true (tkB q w id a b c n d ta f l (ak == 1) y) with ht | ht
  · refine ⟨(q, w, id, a, b, c, n, d, ta, f, l, (ak == 1), y, 0), ⟨K1 + K2 + 19, fun k hk => ?_⟩, .inr ⟨q, w, id, a, b, c, n, d, ta, f, l, (ak == 1), y, rfl, hid, ht, ?_⟩⟩
    · show ticket_Decode.f k s = _
      rw [hwalk k (by omega), if_pos hr]
      simp only [if_true]
      rw [if_neg hak, show ticket_Check.f k q w id a b c n d ta f l (ak == 1) y = _ from h2 k (by omega), ht]
      rfl
    · have hakl : UInt8.ofNat ak.toNat :: s7.data.toList = akL (ak == 1) ++ s7.data.toList := by
        rw [akL_cons]
        congr 1
        rcases (by omega : ak = 0 ∨ ak = 1) with rfl | rfl <;> rfl
      rw [hst, hm71, msgL, payL, rowL, ← hul, n8, ← n7, ← hakl, ← n6, ← n5, ← n4, ← n3, ← n2, ← n1, ← n0, h0L]
  · refine ⟨zT, ⟨K1 + K2 + 19, fun k hk => ?_⟩, .inl rfl⟩
    show ticket_Decode.f k s = _
    rw [hwalk k (by omega), if_pos hr]
    simp only [if_true]
    rw [if_neg hak, show ticket_Check.f k q w id a b c n d ta f l (ak == 1) y = _ from h2 k (by omega), ht]
    rfl
end Go.Proofs.YtipenplplmdclaaDoor.Tkt
end
section
namespace Go.Proofs.YtipenplplmdclaaDoor.Tkt
open Go Go.RowKit Go.Proofs.YtipenplplmdclaaDoor.Px Go.Proofs.YtipenplplmdclaaDoorW.PrintWords Go.Proofs.YtipenplplmdclaaDoor.Str Go.Proofs.YtipenplplmdclaaDoor.OctF Go.Proofs.YtipenplplmdclaaDoor.CrcB
set_option linter.unusedSimpArgs false
set_option linter.unusedVariables false
theorem r18_ev {S s0 : ByteArray} {A : Nat} (hS : S.size ≤ 1073741824) (h : Rel S s0 A) {c0 : Int} {a b c d : ByteArray} {n : Int} {s1 s2 s3 s4 s5 : ByteArray} {c1 c2 c3 c4 c5 : Int}
    (e1 : oR_Text.f s0 c0 64 = some (a, s1, c1)) (e2 : oR_Text.f s1 c1 64 = some (b, s2, c2)) (e3 : oR_Text.f s2 c2 128 = some (c, s3, c3)) (e4 : oR_Text.f s3 c3 1024 = some (d, s4, c4))
    (e5 : oR_Groups.f 19 s4 c4 5 = some (n, s5, c5)) (ha : a.size ≤ 100000) (hb : b.size ≤ 100000) (hc : c.size ≤ 100000) (hd : d.size ≤ 100000) :
    ∃ A5 : Nat, Rel S s5 A5 ∧ Ev (fun k => gongref18_Read.f k S (A : Int) c0) (if c5 = 0 then (if evB a b c n d = true then (a, b, c, n, d, S, (A5 : Int), 0) else (⟨#[]⟩, ⟨#[]⟩, ⟨#[]⟩, 0, ⟨#[]⟩, S, (A5 : Int), 180)) else (⟨#[]⟩, ⟨#[]⟩, ⟨#[]⟩, 0, ⟨#[]⟩, S, (A5 : Int), c5)) := by
  obtain ⟨A1, ⟨K1, h1⟩, r1⟩ := bT hS h e1
  obtain ⟨A2, ⟨K2, h2⟩, r2⟩ := bT hS r1 e2
  obtain ⟨A3, ⟨K3, h3⟩, r3⟩ := bT hS r2 e3
  obtain ⟨A4, ⟨K4, h4⟩, r4⟩ := bT hS r3 e4
  obtain ⟨A5, ⟨K5, h5⟩, r5⟩ := bG hS r4 (by decide) e5
  obtain ⟨K6, h6⟩ := rcheck18_ev a b c n d (by omega) (by omega) (by omega) (by omega)
  refine ⟨A5, r5, ev_succ (K1 + K2 + K3 + K4 + K5 + K6) fun k hk => ?_⟩
  simp only [gongref18_Read.f, h1 (k + 1) (by omega), h2 (k + 1) (by omega), h3 (k + 1) (by omega), h4 (k + 1) (by omega), h5 (k + 1) (by omega), h6 (k + 1) (by omega), Option.bind_some]
  by_cases hc5 : c5 = 0
  · subst hc5
    rcases Bool.eq_false_or_eq_true (evB a b c n d) with p | p
    · simp [p, gongref18_Read.j0]
    · simp [p, gongref18_Read.j0, uR_Refuse.f]
  · simp [hc5, gongref18_Read.j0]
theorem rdec_walk (s : ByteArray) (m1 : List UInt8) (hs : s.size ≤ 100000) (hst : s.data.toList = tagL (71 :: m1)) {q w id ta f l ak n : Int} {y a b c d : ByteArray} {s1 s2 s3 s4 s5 s6 s7 s8 s9 sa sb sc sd : ByteArray} {c1 c2 c3 c4 c5 c6 c7 c8 c9 ca cb cc cd : Int}
    (e1 : oR_Groups.f 19 (ofL m1) 0 1152921504606846976 = some (q, s1, c1)) (e2 : oR_Wide.f s1 c1 1 = some (w, s2, c2)) (e3 : oR_Groups.f 19 s2 c2 9223372036854775807 = some (id, s3, c3))
    (e4 : oR_Groups.f 19 s3 c3 1099511627776 = some (ta, s4, c4)) (e5 : oR_Groups.f 19 s4 c4 2305843009213693952 = some (f, s5, c5)) (e6 : oR_Groups.f 19 s5 c5 2305843009213693952 = some (l, s6, c6))
    (e7 : oR_Wide.f s6 c6 1 = some (ak, s7, c7)) (e8 : oR_Text.f s7 c7 64 = some (y, s8, c8)) (e9 : oR_Text.f s8 c8 64 = some (a, s9, c9)) (ea : oR_Text.f s9 c9 64 = some (b, sa, ca))
    (eb : oR_Text.f sa ca 128 = some (c, sb, cb)) (ec : oR_Text.f sb cb 1024 = some (d, sc, cc)) (ed : oR_Groups.f 19 sc cc 5 = some (n, sd, cd))
    (ha : a.size ≤ 100000) (hb : b.size ≤ 100000) (hc : c.size ≤ 100000) (hd : d.size ≤ 100000) (hy : y.size ≤ 100000) (hid : id < 9223372036854775808) :
    Ev (fun k => gongref23_Decode.f k s) (if cd = 0 ∧ evB a b c n d = true ∧ rowB id a b c n d ta f l (ak == 1) y = true ∧ sd.data.toList = [] ∧ tkB q w id a b c n d ta f l (ak == 1) y = true ∧ tagL (msgL q w id a b c n d ta f l (ak == 1) y) = s.data.toList
      then (q, w, id, a, b, c, n, d, ta, f, l, (ak == 1), y, 0) else zT) := by
  have hl : s.data.toList.length = s.size := by simp
  have htl := tagL_length (71 :: m1)
  rw [← hst, hl, List.length_cons] at htl
  have hS : (ofL m1).size ≤ 1073741824 := by rw [ofL_size]; omega
  obtain ⟨K0, h0⟩ := ref_Open_ev s (by omega)
  have hres : run all s.data.toList = residue := by rw [hst]; exact run_tagL _
  rw [if_pos ⟨by omega, hres⟩] at h0
  obtain ⟨A1, ⟨K1, h1'⟩, r1⟩ := bG hS (Rel.start (ofL m1)) (by decide) e1
  have h1 : ∀ k, K1 ≤ k → uR_Groups.f k (ofL m1) 0 0 1152921504606846976 = some (q, ofL m1, (A1 : Int), c1) := h1'
  obtain ⟨A2, ⟨K2, h2⟩, r2⟩ := bW hS r1 e2
  obtain ⟨A3, ⟨K3, h3⟩, r3⟩ := bG hS r2 (by decide) e3
  obtain ⟨A4, ⟨K4, h4⟩, r4⟩ := bG hS r3 (by decide) e4
  obtain ⟨A5, ⟨K5, h5⟩, r5⟩ := bG hS r4 (by decide) e5
  obtain ⟨A6, ⟨K6, h6⟩, r6⟩ := bG hS r5 (by decide) e6
  obtain ⟨A7, ⟨K7, h7⟩, r7⟩ := bW hS r6 e7
  obtain ⟨A8, ⟨K8, h8⟩, r8⟩ := bT hS r7 e8
  obtain ⟨A9, r9, ⟨K9, h9⟩⟩ := r18_ev hS r8 e9 ea eb ec ed ha hb hc hd
  obtain ⟨Ka, ha'⟩ := rcheck20_ev id a b c n d ta f l (ak == 1) y (by omega) (by omega) (by omega) (by omega) (by omega)
  obtain ⟨Kb, hb'⟩ := renc_ev q w id a b c n d ta f l (ak == 1) y ha hb hc hd hy hid
  have hx : (s.extract 0 (s.size - 4)).data.toList = 71 :: m1 := by
    rw [pre_L, hst, show s.size - 4 = (71 :: m1 : List UInt8).length by simp only [List.length_cons]; omega]
    exact List.take_left' rfl
  generalize hbdy : s.extract 0 (s.size - 4) = bdy at h0 hx
  have hbs : bdy.size = m1.length + 1 := by rw [size_L, hx, List.length_cons]
  have hbn : ¬ (bdy.toList = []) := by rw [toList_L, hx]; simp
  have hb0 : bt bdy 0 = 71 := by
    have := bt_L (s := bdy) (i := 0) (by omega)
    rw [hx] at this
    exact this
  have hbe : bdy.extract 1 bdy.size = ofL m1 := ext (by rw [post_L, hx, ofL_L]; rfl)
  have hsz := r9.size
  refine ev_succ (K0 + K1 + K2 + K3 + K4 + K5 + K6 + K7 + K8 + K9 + Ka + Kb) fun k hk => ?_
  have hrow : gongref23_ReadRow.f k (ofL m1) (A2 : Int) c2 = some (if cd = 0 ∧ evB a b c n d = true ∧ rowB id a b c n d ta f l (ak == 1) y = true then (id, a, b, c, n, d, ta, f, l, (ak == 1), y, ofL m1, (A9 : Int), 0) else (0, ⟨#[]⟩, ⟨#[]⟩, ⟨#[]⟩, 0, ⟨#[]⟩, 0, 0, 0, false, ⟨#[]⟩, ofL m1, (A9 : Int), if cd = 0 then (if evB a b c n d = true then 230 else 180) else cd)) := by
    simp only [gongref23_ReadRow.f, h3 k (by omega), h4 k (by omega), h5 k (by omega), h6 k (by omega), h7 k (by omega), h8 k (by omega), h9 k (by omega), Option.bind_some]
    by_cases hcd : cd = 0
    · rcases Bool.eq_false_or_eq_true (evB a b c n d) with p | p
      · rcases Bool.eq_false_or_eq_true (rowB id a b c n d ta f l (ak == 1) y) with p2 | p2
        · simp [hcd, p, p2, show gongref20_Check.f k id a b c n d ta f l (ak == 1) y = _ from ha' k (by omega)]
        · simp [hcd, p, p2, show gongref20_Check.f k id a b c n d ta f l (ak == 1) y = _ from ha' k (by omega), uR_Refuse.f]
      · simp [hcd, p, uR_Refuse.f]
    · simp [hcd, uR_Refuse.f]
  have hdec : gongref23_Decode.f (k + 1) s = ((gongref23_ReadRow.f k (ofL m1) (A2 : Int) c2).bind fun bt => ((uR_Done.f bt.2.2.2.2.2.2.2.2.2.2.2.1 bt.2.2.2.2.2.2.2.2.2.2.2.2.1 bt.2.2.2.2.2.2.2.2.2.2.2.2.2).bind fun bu => (if bu.1 = 0 then ((gongref23_Encode.f k q w bt.1 bt.2.1 bt.2.2.1 bt.2.2.2.1 bt.2.2.2.2.1 bt.2.2.2.2.2.1 bt.2.2.2.2.2.2.1 bt.2.2.2.2.2.2.2.1 bt.2.2.2.2.2.2.2.2.1 bt.2.2.2.2.2.2.2.2.2.1 bt.2.2.2.2.2.2.2.2.2.2.1).bind fun bv => (if bv.2 = 0 then (if bv.1.toList = s.toList then (some (q, w, bt.1, bt.2.1, bt.2.2.1, bt.2.2.2.1, bt.2.2.2.2.1, bt.2.2.2.2.2.1, bt.2.2.2.2.2.2.1, bt.2.2.2.2.2.2.2.1, bt.2.2.2.2.2.2.2.2.1, bt.2.2.2.2.2.2.2.2.2.1, bt.2.2.2.2.2.2.2.2.2.2.1, 0)) else (some zT)) else (some zT))) else (some zT)))) := by
    have hne : ((71 : Int) != 71) = false := rfl
    simp only [gongref23_Decode.f, h0 (k + 1) (by omega), Option.bind_some, if_true]
    rw [if_neg hbn, if_pos (by omega), hb0, hne]
    simp only [gongref23_Decode.j0, Bool.false_eq_true, if_false]
    rw [if_pos (by omega), hbe]
    simp only [gongref01_New.f, Option.bind_some, h1 k (by omega), h2 k (by omega)]
    rfl
  rw [hdec, hrow, Option.bind_some]
  by_cases hgood : cd = 0 ∧ evB a b c n d = true ∧ rowB id a b c n d ta f l (ak == 1) y = true
  · rw [if_pos hgood]
    simp only
    by_cases hend : (A9 : Int) < ((ofL m1).size : Int)
    · rw [if_neg (fun z => by have h9 := z.2.2.2.1; have h10 : sd.size = sd.data.toList.length := by simp
                              rw [h9] at h10; simp only [List.length_nil] at h10; omega)]
      simp only [uR_Done.f, if_true, if_pos hend, Option.bind_some]
      rw [if_neg (by decide)]
    · have hsd : sd.data.toList = [] := by rw [r9.list]; exact List.drop_of_length_le (by rw [← size_L]; omega)
      simp only [uR_Done.f, if_true, if_neg hend, Option.bind_some]
      rcases Bool.eq_false_or_eq_true (tkB q w id a b c n d ta f l (ak == 1) y) with p | p
      · rw [show gongref23_Encode.f k q w id a b c n d ta f l (ak == 1) y = _ from hb' k (by omega), p, if_pos rfl, Option.bind_some]
        simp only [if_true]
        rw [toList_L, toList_L, ofL_L]
        by_cases he : tagL (msgL q w id a b c n d ta f l (ak == 1) y) = s.data.toList
        · rw [if_pos he, if_pos ⟨hgood.1, hgood.2.1, hgood.2.2, hsd, trivial, he⟩]
        · rw [if_neg he, if_neg (fun z => he z.2.2.2.2.2)]
      · rw [show gongref23_Encode.f k q w id a b c n d ta f l (ak == 1) y = _ from hb' k (by omega), p]
        simp
  · rw [if_neg hgood]
    have hcode : (if cd = 0 then (if evB a b c n d = true then (230 : Int) else 180) else cd) ≠ 0 := by
      by_cases hcd : cd = 0
      · rw [if_pos hcd]; split <;> decide
      · rw [if_neg hcd]; exact hcd
    generalize (if cd = 0 then (if evB a b c n d = true then (230 : Int) else 180) else cd) = e at hcode
    simp only [uR_Done.f, if_neg hcode, Option.bind_some]
    rw [if_neg (fun z => hgood ⟨z.1, z.2.1, z.2.2.1⟩)]
theorem rdec_no (s : ByteArray) (hs : s.size ≤ 100000) (h : ¬ (4 ≤ s.data.toList.length ∧ run all s.data.toList = residue ∧ (s.data.toList.take (s.data.toList.length - 4)).take 1 = [71])) : Ev (fun k => gongref23_Decode.f k s) zT := by
  have hl : s.data.toList.length = s.size := by simp
  obtain ⟨K0, h0⟩ := ref_Open_ev s (by omega)
  refine ev_succ K0 fun k hk => ?_
  simp only [gongref23_Decode.f, h0 (k + 1) (by omega), Option.bind_some]
  by_cases hop : 4 ≤ s.size ∧ run all s.data.toList = residue
  · rw [if_pos hop]
    simp only [if_true]
    have hx : (s.extract 0 (s.size - 4)).data.toList = s.data.toList.take (s.data.toList.length - 4) := by rw [pre_L, hl]
    have h3 : ¬ ((s.data.toList.take (s.data.toList.length - 4)).take 1 = [71]) := fun z => h ⟨by omega, hop.2, z⟩
    rw [← hx] at h3
    generalize s.extract 0 (s.size - 4) = bdy at h3
    by_cases hb : bdy.toList = []
    · rw [if_pos hb]
      simp only [gongref23_Decode.j0, if_true]
      rfl
    · rw [if_neg hb]
      rw [toList_L] at hb
      have hbs : bdy.size = bdy.data.toList.length := size_L bdy
      have h1 : 1 ≤ bdy.size := by
        rw [hbs]
        cases hbb : bdy.data.toList with
        | nil => exact absurd hbb hb
        | cons x t => simp
      have hne : (bt bdy 0 != 71) = true := by
        rw [bne_iff_ne]
        intro z
        have e := bt_L (s := bdy) (i := 0) (by omega)
        rw [show ((0 : Nat) : Int) = 0 from rfl, z] at e
        apply h3
        cases hbb : bdy.data.toList with
        | nil => exact absurd hbb hb
        | cons x t =>
          rw [hbb] at e
          simp only [List.getD_cons_zero] at e
          have : x.toNat = 71 := by omega
          show [x] = [71]
          rw [← UInt8.ofNat_toNat (x := x), this]
          rfl
      rw [if_pos (by omega), hne]
      simp only [gongref23_Decode.j0, if_true]
      rfl
  · rw [if_neg hop]
    simp only [Bool.false_eq_true, if_false, gongref23_Decode.j0, if_true]
    rfl
theorem rdec_fwd {q w id : Int} {a b c : ByteArray} {n : Int} {d : ByteArray} {ta f l : Int} {ak : Bool} {y : ByteArray} (hid : id < 9223372036854775808) (h : tkB q w id a b c n d ta f l ak y = true) (hz : (tagL (msgL q w id a b c n d ta f l ak y)).length ≤ 100000) :
    Ev (fun k => gongref23_Decode.f k (ofL (tagL (msgL q w id a b c n d ta f l ak y)))) (q, w, id, a, b, c, n, d, ta, f, l, ak, y, 0) := by
  obtain ⟨q1, q2, q3, q4, hr⟩ := tkB_iff.1 h
  obtain ⟨r1, r2, r3, r4, r5, r6, r7⟩ := rowB_iff.1 hr
  obtain ⟨t1, t2, t3, t4, t5⟩ := timesB_iff.1 r5
  obtain ⟨s1, s2, s3, s4⟩ := evB_sizes r7
  have hn := evB_n r7
  have s5 := row_who r6
  have hk19 : 19 ≤ 19 := Nat.le_refl _
  have e1 := oGf (m := q) (most := 1152921504606846976) (by omega) q2 (by omega) (payL w id a b c n d ta f l ak y) hk19
  have e2 := oWf (UInt8.ofNat w.toNat) (rowL id a b c n d ta f l ak y)
  rw [u8_of (by omega) (by omega)] at e2
  have e3 := oGf (m := id) (most := 9223372036854775807) (by omega) (by omega) hid (gi ta ++ (gi f ++ (gi l ++ (akL ak ++ (txt y ++ evL a b c n d))))) hk19
  have e4 := oGf (m := ta) (most := 1099511627776) (by omega) r4 (by omega) (gi f ++ (gi l ++ (akL ak ++ (txt y ++ evL a b c n d)))) hk19
  have e5 := oGf (m := f) (most := 2305843009213693952) t1 t2 (by omega) (gi l ++ (akL ak ++ (txt y ++ evL a b c n d))) hk19
  have e6 := oGf (m := l) (most := 2305843009213693952) t3 t4 (by omega) (akL ak ++ (txt y ++ evL a b c n d)) hk19
  have e7 := oWf (UInt8.ofNat (if ak = true then 1 else 0)) (txt y ++ evL a b c n d)
  rw [← akL_cons] at e7
  have e8 := oTf (t := y) (most := 64) (by omega) (by omega) (evL a b c n d)
  have e9 := oTf (t := a) (most := 64) (by omega) (by omega) (txt b ++ (txt c ++ (txt d ++ gi n)))
  have ea := oTf (t := b) (most := 64) (by omega) (by omega) (txt c ++ (txt d ++ gi n))
  have eb := oTf (t := c) (most := 128) (by omega) (by omega) (txt d ++ gi n)
  have ec := oTf (t := d) (most := 1024) (by omega) (by omega) (gi n)
  have ed := oGf (m := n) (most := 5) hn.1 hn.2 (by omega) [] hk19
  rw [List.append_nil] at ed
  have hak : (((UInt8.ofNat (if ak = true then 1 else 0)).toNat : Int) == 1) = ak := by cases ak <;> decide
  have := rdec_walk (ofL (tagL (msgL q w id a b c n d ta f l ak y))) (gi q ++ payL w id a b c n d ta f l ak y) (by rw [ofL_size]; exact hz) (by rw [ofL_L]; rfl) e1 e2 e3 e4 e5 e6 e7 e8 e9 ea eb ec ed (by omega) (by omega) (by omega) (by omega) (by omega) hid
  rw [hak, if_pos ⟨rfl, r7, hr, ofL_L [], h, by rw [ofL_L]⟩] at this
  exact this
theorem rdec_ev (s : ByteArray) (hs : s.size ≤ 100000) : ∃ v : Tup, Ev (fun k => gongref23_Decode.f k s) v ∧
    (v = zT ∨ ∃ q w id a b c n d ta f l ak y, v = (q, w, id, a, b, c, n, d, ta, f, l, ak, y, 0) ∧ id < 9223372036854775808 ∧ tkB q w id a b c n d ta f l ak y = true ∧ s.data.toList = tagL (msgL q w id a b c n d ta f l ak y)) := by
  have hl : s.data.toList.length = s.size := by simp
  by_cases hop : 4 ≤ s.data.toList.length ∧ run all s.data.toList = residue ∧ (s.data.toList.take (s.data.toList.length - 4)).take 1 = [71]
  case neg => exact ⟨zT, rdec_no s hs hop, .inl rfl⟩
  obtain ⟨p1, p2, p3⟩ := hop
  generalize hm : s.data.toList.take (s.data.toList.length - 4) = m at p3
  have hml : m.length ≤ 100000 := by rw [← hm, List.length_take]; omega
  have hst := tag_form p1 p2 hm
  have hm71 : m = 71 :: m.drop 1 := by
    cases m with
    | nil => simp at p3
    | cons x t => simp only [List.take_succ_cons, List.take_zero, List.cons.injEq, and_true] at p3; subst p3; rfl
  generalize m.drop 1 = m1 at hm71
  have hm1 : m1.length ≤ 100000 := by rw [hm71] at hml; simp only [List.length_cons] at hml; omega
  rw [hm71] at hst
  have h0s : (ofL m1).size ≤ 100000 := by rw [ofL_size]; omega
  obtain ⟨q, s1, c1, e1, z1, _, _, _, _⟩ := oG (ofL m1) 0 1152921504606846976 (by decide) 19 (by decide)
  obtain ⟨w, s2, c2, e2, z2, w0, w1, _⟩ := oW s1 c1
  obtain ⟨id, s3, c3, e3, z3, _, _, hid, _⟩ := oG s2 c2 9223372036854775807 (by decide) 19 (by decide)
  obtain ⟨ta, s4, c4, e4, z4, _, _, _, _⟩ := oG s3 c3 1099511627776 (by decide) 19 (by decide)
  obtain ⟨f, s5, c5, e5, z5, _, _, _, _⟩ := oG s4 c4 2305843009213693952 (by decide) 19 (by decide)
  obtain ⟨l, s6, c6, e6, z6, _, _, _, _⟩ := oG s5 c5 2305843009213693952 (by decide) 19 (by decide)
  obtain ⟨ak, s7, c7, e7, z7, a0, a1, _⟩ := oW s6 c6
  obtain ⟨y, s8, c8, e8, z8, hy, _⟩ := oT s7 c7 64 (by decide)
  obtain ⟨a, s9, c9, e9, z9, ha, _⟩ := oT s8 c8 64 (by decide)
  obtain ⟨b, sa, ca, ea, za, hb, _⟩ := oT s9 c9 64 (by decide)
  obtain ⟨c, sb, cb, eb, zb, hc, _⟩ := oT sa ca 128 (by decide)
  obtain ⟨d, sc, cc, ec, zc, hd, _⟩ := oT sb cb 1024 (by decide)
  obtain ⟨n, sd, cd, ed, zd, _, _, _, _⟩ := oG sc cc 5 (by decide) 19 (by decide)
  have := rdec_walk s m1 hs hst e1 e2 e3 e4 e5 e6 e7 e8 e9 ea eb ec ed (by omega) (by omega) (by omega) (by omega) (by omega) hid
  refine ⟨_, this, ?_⟩
  split
  · rename_i hg
    exact .inr ⟨q, w, id, a, b, c, n, d, ta, f, l, (ak == 1), y, rfl, hid, hg.2.2.2.2.1, hg.2.2.2.2.2.symm⟩
  · exact .inl rfl
end Go.Proofs.YtipenplplmdclaaDoor.Tkt
end
section
namespace Go.Proofs.YtipenplplmdclaaDoor.Tkt
open Go Go.RowKit Go.Proofs.YtipenplplmdclaaDoor.Px Go.Proofs.YtipenplplmdclaaDoorW.PrintWords Go.Proofs.YtipenplplmdclaaDoor.Str Go.Proofs.YtipenplplmdclaaDoor.OctF Go.Proofs.YtipenplplmdclaaDoor.CrcB
set_option linter.unusedSimpArgs false
set_option linter.unusedVariables false
theorem ackR_cases (l : List UInt8) : ackR l = (0, 230) ∨ ∃ n, 1 ≤ n ∧ n ≤ 1152921504606846976 ∧ ackR l = (n, 0) ∧ l = tagL (ackL n) := by
  by_cases hop : 4 ≤ l.length ∧ run all l = residue ∧ (l.take (l.length - 4)).take 1 = [65]
  case neg => exact .inl (by unfold ackR opnR; rw [if_neg hop]; rfl)
  have ho : opnR l 65 = (ofL ((l.take (l.length - 4)).drop 1), 0, true) := by unfold opnR; rw [if_pos hop]
  obtain ⟨p1, p2, p3⟩ := hop
  generalize hm : l.take (l.length - 4) = m at ho p3
  have hst := tag_form p1 p2 hm
  have hm65 : m = 65 :: m.drop 1 := by
    cases m with
    | nil => simp at p3
    | cons x t => simp only [List.take_succ_cons, List.take_zero, List.cons.injEq, and_true] at p3; subst p3; rfl
  generalize m.drop 1 = m1 at hm65 ho
  unfold ackR
  rw [ho]
  simp only [if_true]
  rw [ofL_L]
  by_cases hc : (rdG 1152921504606846976 m1).2.2 = 0 ∧ m1.drop (rdG 1152921504606846976 m1).2.1.toNat = [] ∧ 1 ≤ (rdG 1152921504606846976 m1).1
  · rw [if_pos hc]
    obtain ⟨h1, h2, h3⟩ := hc
    obtain ⟨m1', m2⟩ := rdG_most 1152921504606846976 9 0 m1 0 (by decide) (by decide) (by decide)
    obtain ⟨n, j, g1, g2, g3, g4⟩ := rdG_inv _ _ h1
    refine .inr ⟨(rdG 1152921504606846976 m1).1, h3, m1', rfl, ?_⟩
    rw [g2, Int.toNat_natCast] at h2
    have : m1 = grp n := by rw [g4]; conv => lhs; rw [← List.take_append_drop j m1, h2, List.append_nil]
    rw [hst, hm65, ackL, g1, gi, Int.toNat_natCast, this]
  · rw [if_neg hc]
    exact .inl rfl
theorem racked_ev (s : ByteArray) (hs : s.size ≤ 100000) : Ev (fun k => gongref23_Acked.f k s) (ackR s.data.toList) := by
  have hl : s.data.toList.length = s.size := by simp
  obtain ⟨K0, h0⟩ := ref_Open_ev s (by omega)
  by_cases hop : 4 ≤ s.size ∧ run all s.data.toList = residue
  case neg =>
    rw [if_neg hop] at h0
    have ha : ackR s.data.toList = (0, 230) := by unfold ackR opnR; rw [if_neg (fun z => hop ⟨by omega, z.2.1⟩)]; rfl
    refine ev_succ K0 fun k hk => ?_
    rw [ha]
    simp only [gongref23_Acked.f, h0 (k + 1) (by omega), Option.bind_some, Bool.false_eq_true, if_false, gongref23_Acked.j0, if_true]
  rw [if_pos hop] at h0
  have hx : (s.extract 0 (s.size - 4)).data.toList = s.data.toList.take (s.data.toList.length - 4) := by rw [pre_L, hl]
  have hst := tag_form (by omega) hop.2 hx.symm
  generalize s.extract 0 (s.size - 4) = bdy at h0 hx hst
  have hbs : bdy.size = bdy.data.toList.length := size_L bdy
  have hbl : bdy.size ≤ 100000 := by rw [hbs, hx, List.length_take]; omega
  cases hb : bdy.data.toList with
  | nil =>
    have ha : ackR s.data.toList = (0, 230) := by unfold ackR opnR; rw [if_neg (fun z => by have z3 := z.2.2; rw [← hx, hb] at z3; simp at z3)]; rfl
    refine ev_succ K0 fun k hk => ?_
    have hbt : (bdy.toList == ([] : List UInt8)) = true := by rw [toList_L, hb]; rfl
    rw [ha]
    simp only [gongref23_Acked.f, h0 (k + 1) (by omega), Option.bind_some, if_true, hbt, gongref23_Acked.j0]
  | cons x t =>
    have hbt : (bdy.toList == ([] : List UInt8)) = false := by rw [toList_L, hb]; rfl
    have hb1 : 1 ≤ bdy.size := by rw [hbs, hb]; simp
    have hbe : bdy.extract 1 bdy.size = ofL t := ext (by rw [post_L, hb, ofL_L]; rfl)
    have htl : t.length ≤ 100000 := by rw [hbs, hb] at hbl; simp only [List.length_cons] at hbl; omega
    have hS : (ofL t).size ≤ 1073741824 := by rw [ofL_size]; omega
    obtain ⟨n, s1, c1, e1, z1, n0, n1, n2, f1⟩ := oG (ofL t) 0 1152921504606846976 (by decide) 19 (by decide)
    obtain ⟨A1, ⟨K1, h1'⟩, r1⟩ := bG hS (Rel.start (ofL t)) (by decide) e1
    have h1 : ∀ k, K1 ≤ k → uR_Groups.f k (ofL t) 0 0 1152921504606846976 = some (n, ofL t, (A1 : Int), c1) := h1'
    obtain ⟨K2, h2⟩ := rack_ev n
    obtain ⟨r, e2, f2⟩ := oD s1 c1
    have h3 := bD r1 e2
    have hj : ∀ k, K0 + K1 + K2 ≤ k → gongref23_Acked.f (k + 1) s = (if ackB n = true then (if tagL (ackL n) = s.data.toList then (if r = 0 then some (n, 0) else some (0, 230)) else some (0, 230)) else some (0, 230)) := by
      intro k hk
      simp only [gongref23_Acked.f, h0 (k + 1) (by omega), Option.bind_some, if_true, hbt, gongref23_Acked.j0, Bool.false_eq_true, if_false]
      rw [if_pos (by omega), hbe]
      simp only [gongref01_New.f, Option.bind_some, h1 k (by omega), show gongref23_Ack.f k n = _ from h2 k (by omega)]
      rcases Bool.eq_false_or_eq_true (ackB n) with p | p
      · simp only [p, if_true]
        rw [toList_L, toList_L, ofL_L, h3, Option.bind_some]
      · simp [p]
    rcases ackR_cases s.data.toList with ha | ⟨n', b0, b1, ha, hsl⟩
    · refine ev_succ (K0 + K1 + K2) fun k hk => ?_
      rw [ha, hj k hk]
      by_cases p : ackB n = true
      · rw [if_pos p]
        by_cases q : tagL (ackL n) = s.data.toList
        · have pb := of_decide_eq_true p
          rw [← q, ackR_ack n pb.1 pb.2] at ha
          injection ha with ha1 ha2
          cases ha2
        · rw [if_neg q]
      · rw [if_neg p]
    · have hlen := tagL_length (ackL n')
      have hbb : bdy.data.toList = ackL n' := by
        rw [hx, hsl, hlen, Nat.add_sub_cancel]
        exact List.take_left' rfl
      rw [hb, ackL] at hbb
      injection hbb with _ ht
      have e3 := oGf (m := n') (most := 1152921504606846976) (by omega) b1 (by omega) [] (show 19 ≤ 19 from Nat.le_refl _)
      rw [List.append_nil, ← ht, e1] at e3
      simp only [Option.some.injEq, Prod.mk.injEq] at e3
      obtain ⟨rfl, rfl, rfl⟩ := e3
      rw [oDf] at e2
      simp only [Option.some.injEq, Prod.mk.injEq] at e2
      obtain ⟨rfl, _⟩ := e2
      refine ev_succ (K0 + K1 + K2) fun k hk => ?_
      rw [ha, hj k hk, if_pos (show ackB n = true from decide_eq_true ⟨b0, b1⟩), if_pos hsl.symm, if_pos rfl]
theorem both_dec (s : ByteArray) (hs : s.size ≤ 100000) : ∃ v : Tup, Ev (fun k => ticket_Decode.f k s) v ∧ Ev (fun k => gongref23_Decode.f k s) v := by
  obtain ⟨v, hv, hc⟩ := tdec_ev s hs
  rcases hc with rfl | ⟨q, w, id, a, b, c, n, d, ta, f, l, ak, y, rfl, hid, ht, hst⟩
  · obtain ⟨u, hu, hd⟩ := rdec_ev s hs
    rcases hd with rfl | ⟨q, w, id, a, b, c, n, d, ta, f, l, ak, y, rfl, hid, ht, hst⟩
    · exact ⟨zT, hv, hu⟩
    · have := tdec_fwd hid ht
      rw [← hst, ofL_of] at this
      exact ⟨_, this, hu⟩
  · have hl : s.data.toList.length = s.size := by simp
    have := rdec_fwd hid ht (by rw [← hst]; omega)
    rw [← hst, ofL_of] at this
    exact ⟨_, hv, this⟩
end Go.Proofs.YtipenplplmdclaaDoor.Tkt
namespace Go.Proofs.YtipenplplmdclaaDoor.Pure
open Go Go.RowKit Go.Proofs.YtipenplplmdclaaDoor.Px Go.Proofs.YtipenplplmdclaaDoorW.PrintWords Go.Proofs.YtipenplplmdclaaDoor.Str Go.Proofs.YtipenplplmdclaaDoor.Tkt
theorem TicketReads (a0 : ByteArray) (h : a0.size ≤ 140737488351232) : true = true ∧ ∃ k, gonglaw23_TicketReads.f k a0 = some true := by
  refine ⟨rfl, ?_⟩
  obtain ⟨K9, h9⟩ := works_ev
  by_cases hs : (a0.size : Int) > 4000
  · refine ⟨K9, ?_⟩
    simp only [gonglaw23_TicketReads.f, if_pos hs, h9 K9 (Nat.le_refl _), Option.bind_some]
  · obtain ⟨v, ⟨K1, h1⟩, ⟨K2, h2⟩⟩ := both_dec a0 (by omega)
    obtain ⟨K3, h3⟩ := tacked_ev a0 (by omega)
    obtain ⟨K4, h4⟩ := racked_ev a0 (by omega)
    refine ⟨K1 + K2 + K3 + K4 + K9, ?_⟩
    simp only [gonglaw23_TicketReads.f, if_neg hs, h1 _ (show K1 ≤ K1 + K2 + K3 + K4 + K9 by omega), h2 _ (show K2 ≤ K1 + K2 + K3 + K4 + K9 by omega), h3 _ (show K3 ≤ K1 + K2 + K3 + K4 + K9 by omega), h4 _ (show K4 ≤ K1 + K2 + K3 + K4 + K9 by omega), h9 _ (show K9 ≤ K1 + K2 + K3 + K4 + K9 by omega), Option.bind_some, beq_self_eq_true, Bool.and_self, if_true]
end Go.Proofs.YtipenplplmdclaaDoor.Pure
end
section
namespace Go.Proofs.YtipenplplmdclaaDoor.Px
open Go Go.RowKit Go.Proofs.YtipenplplmdclaaDoorW.PrintWords
theorem gonglaw23_TicketReads.whole (a0 : ByteArray) (r : Bool) (w : World)  (HT : Aside0 (TabW w)) (h : r = true ∧ ∃ k, gonglaw23_TicketReads.f k a0 = some true) :
    Calls Tryd.prog 4 #[.string a0] w fun e w' => e = .returned (.bool r) ∧ Below w.heap.size w w' := by
  obtain ⟨rfl, k, hk⟩ := h
  skip
  exact gonglaw23_TicketReads.calls k a0 true w HT hk rfl
end Go.Proofs.YtipenplplmdclaaDoor.Px
end
section
namespace Go.Proofs.YtipenplplmdclaaDoor.Open
open Go Go.RowKit Go.Proofs.YtipenplplmdclaaDoorW.PrintWords
def Opens (R : Nat) {α : Type} (d : Kd α) (P : Program) (t : TypeId) (WF : α → Prop) : Prop :=
  P.cellsOf t = d.sz ∧ ∀ (H : Type) (enc : TypeId × Value → H) (W : World) (base : Nat) (sp : Nat → Bool) (held : Bool) (fuel : Nat) (cs : List Value) (y : DataW H) (p : List MemPlace),
    DataW.trod enc P W base sp held fuel t cs = some (y, p) → (∀ n ∈ y.weights P t, n ≤ R) → ∃ x, d.K W x cs ∧ WF x
theorem int {R : Nat} {P : Program} {t : TypeId} {k : IntKind} (h : P.underlying t = some (.int k)) (hc : P.cellsOf t = 1) : Opens R (Kd.int k) P t (fun n => (Lit.int k n).wf = true) := by
  refine ⟨hc, fun H enc W base sp held fuel cs y p ht _ => ?_⟩
  obtain ⟨n, rfl, _, hw⟩ := DataW.trod_int h ht
  exact ⟨n, rfl, hw⟩
theorem bool {R : Nat} {P : Program} {t : TypeId} (h : P.underlying t = some .bool) (hc : P.cellsOf t = 1) : Opens R Kd.bool P t (fun _ => True) := by
  refine ⟨hc, fun H enc W base sp held fuel cs y p ht _ => ?_⟩
  cases fuel with
  | zero => simp [DataW.trod] at ht
  | succ fuel =>
    simp only [DataW.trod, h] at ht
    split at ht <;> first | (rename_i h1 h2; cases h1) | skip
    all_goals first | (cases ht; done) | skip
    all_goals simp_all
    · exact .inl rfl
    · exact .inr rfl
theorem string {R : Nat} {P : Program} {t : TypeId} (h : P.underlying t = some .string) (hc : P.cellsOf t = 1) : Opens R Kd.string P t (fun s => s.size ≤ R) := by
  refine ⟨hc, fun H enc W base sp held fuel cs y p ht hw => ?_⟩
  obtain ⟨s, rfl, he, hs⟩ := DataW.trod_string h ht
  obtain ⟨rfl, rfl⟩ := Prod.mk.inj he
  refine ⟨s, rfl, ?_⟩
  have := hw s.data.toList.length (by simp [DataW.weights])
  simpa using this
theorem choose_list {α : Type} {Q : Nat → α → Prop} : ∀ n, (∀ i, i < n → ∃ x, Q i x) → ∃ l : List α, l.length = n ∧ ∀ i x, l[i]? = some x → Q i x
  | 0, _ => ⟨[], rfl, fun i x h => by simp at h⟩
  | n + 1, h => by
    obtain ⟨l, hl, hq⟩ := choose_list n (fun i hi => h i (by omega))
    obtain ⟨x, hx⟩ := h n (by omega)
    refine ⟨l ++ [x], by simp [hl], fun i y hy => ?_⟩
    rcases Nat.lt_trichotomy i n with hlt | rfl | hgt
    · rw [List.getElem?_append_left (by omega)] at hy
      exact hq i y hy
    · rw [List.getElem?_append_right (by omega), hl] at hy
      simp at hy
      subst hy
      exact hx
    · rw [List.getElem?_append_right (by omega)] at hy
      rw [List.getElem?_eq_none (by simp; omega)] at hy
      cases hy
theorem weights_all {H : Type} {P : Program} {e : TypeId} : ∀ {l : List (DataW H)} {i : Nat} {d : DataW H}, l[i]? = some d → ∀ n ∈ d.weights P e, n ∈ DataW.weightsAll P e l
  | x :: l, 0, d, h, n, hn => by
    simp only [List.getElem?_cons_zero, Option.some.injEq] at h
    subst h
    simp only [DataW.weightsAll, List.mem_append]
    exact .inl hn
  | x :: l, i + 1, d, h, n, hn => by
    simp only [List.getElem?_cons_succ] at h
    simp only [DataW.weightsAll, List.mem_append]
    exact .inr (weights_all h n hn)
  | [], _, _, h, _, _ => by simp at h
theorem cells_at {w : World} {base : Nat} {a : Addr} {n : Nat} {cs : List Value} (h : w.cells? base a n = some cs) : cs.length = n ∧ ∀ j u, cs[j]? = some u → w.cell? (a.add j) = some u := by
  unfold World.cells? at h
  split at h
  · have hl := Lib.mapM_length h
    simp at hl
    refine ⟨hl, fun j u hu => ?_⟩
    have hj : j < n := by
      rcases Nat.lt_or_ge j n with h' | h'
      · exact h'
      · rw [List.getElem?_eq_none (by omega)] at hu
        cases hu
    obtain ⟨b, hb, hf⟩ := Lib.mapM_at h j j (by simp [hj])
    rw [hu] at hb
    injection hb with hb
    subst hb
    exact hf
  · cases h
theorem slice_elems {R : Nat} {α : Type} {d : Kd α} {P : Program} {t e : TypeId} {WF : α → Prop} (ht : P.underlying t = some (.slice e)) (hd : Opens R d P e WF)
    {H : Type} {enc : TypeId × Value → H} {W : World} {base : Nat} {sp : Nat → Bool} {held : Bool} {fuel : Nat} {A : Option Addr} {len cap : Nat} {y : DataW H} {p : List MemPlace}
    (h : DataW.trod enc P W base sp held fuel t [.slice A len cap] = some (y, p)) (hw : ∀ n ∈ y.weights P t, n ≤ R) :
    ∃ l : List α, l.length = len ∧ Kd.C d W A len l ∧ len ≤ cap ∧ (∀ x ∈ l, WF x) ∧ len * P.bytesOf e ≤ R := by
  cases fuel with
  | zero => simp [DataW.trod] at h
  | succ fuel =>
    cases A with
    | none =>
      have h' := h
      simp only [DataW.trod, ht] at h'
      split at h' <;> simp_all
      exact Kd.C_nil d W
    | some a =>
      simp only [DataW.trod, ht] at h
      split at h
      · rename_i hb
        obtain ⟨elems, hm, h⟩ := Option.bind_eq_some_iff.1 h
        obtain ⟨rest, hr, h⟩ := Option.map_eq_some_iff.1 h
        simp only [Prod.mk.injEq] at h
        obtain ⟨rfl, rfl⟩ := h
        have hel : elems.length = len := by simpa using Lib.mapM_length hm
        simp only [DataW.weights, ht, List.mem_cons, List.mem_append] at hw
        have hsz := hw _ (.inl rfl)
        simp only [List.length_map, hel] at hsz
        have hex : ∀ i, i < len → ∃ x, (∃ c, c.length = d.sz ∧ d.K W x c ∧ ∀ j u, c[j]? = some u → W.cell? (a.add (i * d.sz + j)) = some u) ∧ WF x := by
          intro i hi
          obtain ⟨b, hb', hf⟩ := Lib.mapM_at hm i i (by simp [hi])
          obtain ⟨c, hc, hf⟩ := Option.bind_eq_some_iff.1 hf
          obtain ⟨hcl, hcell⟩ := cells_at hc
          obtain ⟨yb, pb⟩ := b
          obtain ⟨x, hx, hwf⟩ := hd.2 H enc W base sp held fuel c yb pb hf (fun n hn => hw n (.inr (.inl (weights_all (i := i) (d := yb) (by simp [hb']) n hn))))
          rw [hd.1] at hcell hcl
          exact ⟨x, ⟨c, hcl, hx, fun j u hu => by rw [← hcell j u hu, Addr.add_add]⟩, hwf⟩
        obtain ⟨l, hl, hq⟩ := choose_list len hex
        refine ⟨l, hl, ⟨hl, by have := hb.2; unfold maxLen at this; omega, fun _ => ⟨a, rfl, fun j x hx => (hq j x hx).1⟩⟩, hb.2.1, fun x hx => ?_, ?_⟩
        · obtain ⟨i, hi⟩ := List.mem_iff_getElem?.1 hx
          exact (hq i x hi).2
        · have h1 : len * P.bytesOf e ≤ (len + rest.length) * P.bytesOf e := Nat.mul_le_mul_right _ (by omega)
          omega
      · cases h
theorem slice {R : Nat} {α : Type} {d : Kd α} {P : Program} {t e : TypeId} {WF : α → Prop} (ht : P.underlying t = some (.slice e)) (hd : Opens R d P e WF) (hc : P.cellsOf t = 1) :
    Opens R (Kd.slice e d) P t (fun l => (∀ x ∈ l, WF x) ∧ l.length * P.bytesOf e ≤ R) := by
  refine ⟨hc, fun H enc W base sp held fuel cs y p h hw => ?_⟩
  have hform : ∃ A len cap, cs = [.slice A len cap] := by
    cases fuel with
    | zero => simp [DataW.trod] at h
    | succ fuel =>
      have h' := h
      simp only [DataW.trod, ht] at h'
      split at h' <;> first | exact ⟨_, _, _, rfl⟩ | (simp_all; done) | skip
      all_goals (simp_all)
  obtain ⟨A, len, cap, rfl⟩ := hform
  obtain ⟨l, hl, hC, hcap, hwf, hb⟩ := slice_elems ht hd h hw
  subst hl
  exact ⟨l, ⟨A, cap, rfl, hcap, hC⟩, hwf, hb⟩
def Fields (R : Nat) {α : Type} (d : Kd α) (P : Program) (fs : List Field) (o : Nat) (WF : α → Prop) : Prop :=
  ∀ (H : Type) (enc : TypeId × Value → H) (W : World) (base : Nat) (sp : Nat → Bool) (held : Bool) (fuel : Nat) (cs : List Value) (xs : List (DataW H × List MemPlace)), cs.length = o + d.sz →
    (fs.mapM fun f => DataW.trod enc P W base sp held fuel f.type ((cs.drop f.offset).take (P.cellsOf f.type))) = some xs → (∀ n ∈ DataW.weightsEach P (fs.map (·.type)) (xs.map (·.1)), n ≤ R) → ∃ x, d.K W x (cs.drop o) ∧ WF x
theorem struct {R : Nat} {α β : Type} {d : Kd α} {P : Program} {t : TypeId} {fs : Array Field} {WF : α → Prop} (ht : P.underlying t = some (.struct fs)) (hc : P.cellsOf t = d.sz) (hf : Fields R d P fs.toList 0 WF) (f : β → α) (g : α → β) (hg : ∀ y, f (g y) = y) :
    Opens R (Kd.iso d f) P t (fun b => WF (f b)) := by
  refine ⟨hc, fun H enc W base sp held fuel cs y p h hw => ?_⟩
  cases fuel with
  | zero => simp [DataW.trod] at h
  | succ fuel =>
    simp only [DataW.trod, ht] at h
    split at h
    · rename_i hl
      obtain ⟨xs, hm, hx⟩ := Option.map_eq_some_iff.1 h
      simp only [Prod.mk.injEq] at hx
      obtain ⟨rfl, rfl⟩ := hx
      obtain ⟨x, hK, hwf⟩ := hf H enc W base sp held fuel cs xs (by omega) hm (fun n hn => hw n (by simpa [DataW.weights, ht] using hn))
      rw [List.drop_zero] at hK
      exact ⟨g x, by show d.K W (f (g x)) cs; rw [hg]; exact hK, by show WF (f (g x)); rw [hg]; exact hwf⟩
    · cases h
end Go.Proofs.YtipenplplmdclaaDoor.Open
end
section
namespace Go.Proofs.YtipenplplmdclaaDoor.Laid
open Go Go.RowKit
theorem half_data {H : Type} : Rows.laid_gong_crc_half (H := H) = Lib.tabData .u32 Crc.halfL := rfl
def boolData {H : Type} (bs : List Bool) : DataW H := .agg (bs.map fun b => .lit (.bool b))
set_option maxRecDepth 100000 in
theorem whats_data {H : Type} : Rows.laid_gong_ticket_whats (H := H) = boolData Px.whatsL := rfl
theorem trod_bool {H : Type} {enc : TypeId × Value → H} {P : Program} {W : World} {base : Nat} {sp : Nat → Bool} {held : Bool} {fuel : Nat} {t : TypeId} {cs : List Value} {y : DataW H} {p : List MemPlace}
    (h : P.underlying t = some .bool) (ht : DataW.trod enc P W base sp held fuel t cs = some (y, p)) : ∃ b : Bool, cs = [.bool b] ∧ y = .lit (.bool b) := by
  cases fuel with
  | zero => simp [DataW.trod] at ht
  | succ fuel =>
    simp only [DataW.trod, h] at ht
    split at ht <;> first | (rename_i h1 h2; cases h1) | skip
    all_goals first | (cases ht; done) | skip
    all_goals simp_all
theorem cells_of_bools {H : Type} {enc : TypeId × Value → H} {P : Program} {w : World} {base : Nat} {sp : Nat → Bool} {held : Bool} {fuel : Nat} {t e : TypeId} {n : Nat} {cs : List Value} {zs : List Bool} {p : List MemPlace}
    (ht : P.underlying t = some (.array n e)) (he : P.underlying e = some .bool) (hce : P.cellsOf e = 1) (hct : P.cellsOf t = n)
    (h : DataW.trod enc P w base sp held fuel t cs = some (boolData zs, p)) : cs = zs.map Value.bool := by
  cases fuel with
  | zero => simp [DataW.trod] at h
  | succ fuel =>
    simp only [DataW.trod, ht, hce, hct, Nat.mul_one] at h
    split at h
    · rename_i hl
      obtain ⟨xs, hm, hx⟩ := Option.map_eq_some_iff.1 h
      have hxs : xs.map (·.1) = zs.map fun z => (DataW.lit (.bool z) : DataW H) := by
        have := congrArg Prod.fst hx
        simpa [boolData] using this
      have hxl : xs.length = n := by simpa using Lib.mapM_length hm
      have hzl : zs.length = n := by
        have := congrArg List.length hxs
        simp at this
        omega
      apply List.ext_getElem?
      intro i
      by_cases hi : i < n
      · obtain ⟨b, hb, hf⟩ := Lib.mapM_at hm i i (by simp [hi])
        obtain ⟨z, hc, hy⟩ := trod_bool he hf
        have h1 : cs[i]? = some (.bool z) := by
          have := congrArg (·[0]?) hc
          simpa [List.getElem?_take, List.getElem?_drop] using this
        have h2 : (xs.map (·.1))[i]? = some (DataW.lit (.bool z) : DataW H) := by simp [hb, hy]
        rw [hxs] at h2
        simp only [List.getElem?_map, Option.map_eq_some_iff, DataW.lit.injEq, Lit.bool.injEq] at h2
        obtain ⟨z', hz', rfl⟩ := h2
        simp [h1, hz']
      · rw [List.getElem?_eq_none (by omega), List.getElem?_eq_none (by simp; omega)]
    · cases h
theorem tabs {W : World} (h : laidMetH Tryd.prog [("gong/crc.half", Rows.laid_gong_crc_half), ("gong/ticket.whats", Rows.laid_gong_ticket_whats)] W) : Px.TabW W := by
  rw [MakeChecks.laidMetH_plain _ _ _ (by kernel_rfl), half_data, whats_data] at h
  refine ⟨Lib.tabIs_of_head (g := 1) (t := 90) (e := 43) (n := 16) (by kernel_rfl) (by kernel_rfl) Tryd.underlying90 Tryd.underlying43 (by kernel_rfl) (by kernel_rfl) h, ?_⟩
  obtain ⟨ps, ⟨g', t', cs, fuel, p, q, hg', ht', hvar, hd, _, _⟩, _⟩ := h.tail
  obtain rfl := Option.some.inj (Px.whats_at.symm.trans hg')
  obtain rfl := Option.some.inj ((show (Tryd.prog.globals[0]?).map (·.type) = some 54 by kernel_rfl).symm.trans ht')
  show W.var? Tryd.prog "gong/ticket.whats" = some (Px.whatsL.map Value.bool).toArray
  rw [hvar, ← cells_of_bools Tryd.underlying54 Tryd.underlying4 (by kernel_rfl) (by kernel_rfl) hd]
end Go.Proofs.YtipenplplmdclaaDoor.Laid
end
section
namespace Go.Proofs.YtipenplplmdclaaDoor.ticketReads
open Go.ChangeShapes Go.WideShapes Go.ChangeAt Go.RowKit Go.Proofs.YtipenplplmdclaaDoorW.PrintWords
open Go.ChangeMaps (open_string shut_string)
theorem own : ownKnob Tryd.prog.godebug = none := by kernel_rfl
theorem laidOut : laidOutB Tryd.prog = true := by kernel_rfl
def laidL : List (String × DataW Unit) := [("gong/crc.half", Rows.laid_gong_crc_half), ("gong/ticket.whats", Rows.laid_gong_ticket_whats)]
theorem door_met (os : Os) (args : Array Value) : laidMetH Tryd.prog laidL ((World.doorLaid Tryd.prog 19 os).forCall (fun _ _ => 0) ⟨#[], args, []⟩).memory :=
  laidMetH_of_parts3 (fuel := 8) (laidMet_of_run' 8 (by kernel_rfl) (by kernel_rfl)) (by kernel_rfl) (by kernel_rfl)
set_option maxRecDepth 100000 in
theorem lifted (os : Os) (started : os.Started) (H : Type) (enc : TypeId × Value → H) :
    ReturnsInHanded {} Tryd.checked os 4 .any (fun w args => (Rows.ticketReadsSpec.pre enc Tryd.prog Tryd.f4 [] false w args ∧ laidMetH Tryd.prog laidL w) ∧ sizedMet enc Tryd.prog Tryd.f4 (OpenSpec.ofChange Rows.ticketReadsSpec) false w args)
      (Rows.ticketReadsSpec.post enc Tryd.prog Tryd.f4 false true false false) := by
  refine returnsInHanded_of_change_and (C := Tryd.checked) (X := fun w _ => laidMetH Tryd.prog laidL w) (fun _ _ _ hh h => h.of_heap hh) own started (by kernel_rfl) Tryd.func4
    (ChangeSpec.witness_shaped (enc := enc) (C := Tryd.checked) (os := os) (X := fun w _ => laidMetH Tryd.prog laidL w) false (World.doorLaid Tryd.prog 19 os) #[.string ByteArray.empty] 8 rfl (World.shaped_of_RefB (by kernel_rfl) (by kernel_rfl)) (by kernel_rfl) (by kernel_rfl) (by kernel_rfl) (door_met os _)) ?_
  intro W base args ds gs before hval0 hW _ hsz0 hL _
  have HT : Px.TabW W := Laid.tabs hL
  have hsz : (DataW.weightsEach Tryd.prog (Tryd.f4.params.toList ++ Rows.ticketReadsSpec.plain.varTypes Tryd.prog) (ds ++ gs)).all (· ≤ reachBytes) = true := hsz0
  have hval : ∀ (j : Nat) t v, Tryd.f4.params[j]? = some t → args[j]? = some v → Value.okWide Tryd.prog W .any base t v := hval0
  have hW' := hW
  obtain ⟨p, q, hA0, hV, rfl, hfz, hnd⟩ := hW
  have hA : DataW.TrodAll enc Tryd.prog W 0 (fun _ => true) true Tryd.f4.params.toList args.toList ds p := hA0
  rw [Tryd.params4] at hA hval hsz
  obtain ⟨v0, vs0, d0, ds0, p0, q0, hargs, rfl, rfl, h0, r0⟩ := trodAll_cons hA
  obtain ⟨rfl, rfl, rfl⟩ := trodAll_nil r0
  obtain rfl : args = #[v0] := by cases args; simp_all
  obtain ⟨rfl, rfl⟩ := trodVars_none hV
  obtain ⟨a0, rfl, rfl, rfl, y0⟩ := open_string Tryd.underlying9 (hval 0 9 v0 rfl rfl) h0
  have w0 : a0.size ≤ 140737488351232 := by
    have z := sized_string hsz (j := 0) (t := 9) rfl rfl
    rw [Array.length_toList] at z
    exact z
  clear hA0 hval0 hsz0 hsz
  have hk := Pure.TicketReads a0 w0
  refine (Px.gonglaw23_TicketReads.whole a0 true W ⟨HT⟩ hk).mono fun e W' ⟨he, hd⟩ => ?_
  subst he
  have bel : Below W.heap.size W W' := hd
  exact ⟨_, rfl, _, _, _, [], _, [], hW', trodAll_mk1 (shut_bool Tryd.underlying4 _), (trodAll_cons_mk (shut_string Tryd.underlying9 y0) trodAll_mk0), rfl, bel.frame _, fun h => by cases h⟩
theorem over : Rows.ticketReadsRow.holds Tryd.pinned (OpenSpec.ofChange Rows.ticketReadsSpec) :=
  OpenClaim.holds_of_wide 4 Tryd.f4 rfl rfl rfl rfl rfl rfl rfl ⟨rfl, rfl, rfl, rfl, rfl⟩ rfl rfl rfl rfl rfl (by kernel_rfl) Tryd.func4 (by kernel_rfl)
    (of_decide_eq_true (by kernel_rfl)) (by unfold Func.isWrapper; first | (rw [if_pos (by decide +kernel)]; kernel_rfl) | (rw [if_neg (by decide +kernel)]; exact ⟨rfl, rfl⟩))
    (fun os started H enc _ => lifted os started H enc)
theorem proved : Rows.TicketReadsCardSaid :=
  Claim7.holds_tied_plain_at .later [] [.data, .data] true (true, "9f82870e36640dfb5702ad76a2b84487ece746f37b5575c84b21c1295ff48b59") false
    over (fun _ h => by cases h) (by kernel_rfl) (fun _ h => by cases h) ticketReads_row_tie rfl ⟨rfl, rfl⟩ (by kernel_rfl) rfl
    (fun f fn hf hfn => by
      obtain rfl : f = 4 := Option.some.inj ((show Tryd.prog.funcNamed "gong/gonglaw23.TicketReads" = some 4 by kernel_rfl).symm.trans hf) |>.symm
      obtain rfl : fn = Tryd.f4 := (Option.some.inj (Tryd.func4.symm.trans hfn)).symm
      exact ⟨by kernel_rfl, fun j t ht => by
        rw [Tryd.params4] at ht
        have hm : t ∈ [9] := by simpa using Array.mem_of_getElem? ht
        have hall : ([9].all fun u => !Tryd.prog.wantsStandIn u) = true := by kernel_rfl
        exact (show Tryd.prog.wantsStandIn t = false by simpa using List.all_eq_true.1 hall t hm)⟩)
    (by kernel_rfl)
#print axioms proved
end Go.Proofs.YtipenplplmdclaaDoor.ticketReads
namespace Go.Proofs.YtipenplplmdclaaDoor
theorem ticketReads_holds : Rows.TicketReadsCardSaid := ticketReads.proved
end Go.Proofs.YtipenplplmdclaaDoor
end
