/- TicketTurned: for every input that the row speaks of the law returns true, and what came in reads as it did; the variables that it lists are tied to the program's text (the card). Condition: each listed variable reads as the program's own initialisers lay it. -/
import Derived.Test.YtipenplplmdclaaDoorZTicketTurnedD
import Derived.DataReads
import Derived.DataElems
import Derived.SizedLaws
import Derived.ChangeShapes
import Derived.ChangeMaps
import Derived.Test.YtipenplplmdclaaDoorRows
import Derived.LaidMore
import Derived.Stop.Joined
import Derived.Stop.LaidErr
import Derived.ProofKit
import Derived.OpenShut
import Derived.ShutString
import Derived.ChangeOld
import Derived.Deep.DeepHandedRow
import Derived.SevenTiedAt
import Derived.Test.YtipenplplmdclaaDoorTie
import Derived.Test.YtipenplplmdclaaDoorCards
set_option linter.unusedVariables false
set_option linter.unusedSimpArgs false
section
namespace Go.Proofs.YtipenplplmdclaaDoor.OctF
open Go Go.RowKit Go.Proofs.YtipenplplmdclaaDoor.Px Go.Proofs.YtipenplplmdclaaDoorW.PrintWords Go.Proofs.YtipenplplmdclaaDoor.Str
theorem join8 (n b : Nat) (hn : n < 72057594037927936) (hb : b < 256) : Go.bits .or .u64 (IntKind.u64.wrap ((n : Int) * 256)) (b : Int) = ((n * 256 + b : Nat) : Int) := by
  have hw : IntKind.u64.wrap ((n : Int) * 256) = (n : Int) * 256 := by rw [IntKind.wrap_u64]; omega
  rw [hw, bits_join .u64 64 (by decide) (fun n h0 h1 => by rw [IntKind.wrap_u64]; omega) 8 ((n : Int) * 256) (b : Int) (by omega) (by omega) (by omega) (by omega) (by omega) (by omega)]
  omega
theorem wideU_val (l : List UInt8) (h : l.length ≤ 8) : Oct.wideU (l.map fun b => (b.toNat : Int)) = (val l : Int) := by
  have key : ∀ l : List UInt8, l.length ≤ 8 → Oct.wideU (l.map fun b => (b.toNat : Int)) = (val l : Int) := fun l => by
    refine snoc_ind (Q := fun l => l.length ≤ 8 → Oct.wideU (l.map fun b => (b.toNat : Int)) = (val l : Int)) (fun _ => rfl) (fun l b ih h => ?_) l
    rw [List.length_append, List.length_singleton] at h
    have h1 := ih (by omega)
    have hv := val_lt l
    have h7 : (256 : Nat) ^ l.length ≤ 72057594037927936 := Nat.le_trans (Nat.pow_le_pow_right (by decide) (show l.length ≤ 7 by omega)) (by decide)
    unfold Oct.wideU at h1 ⊢
    rw [List.map_append, List.foldl_append, h1, val_snoc]
    exact join8 (val l) b.toNat (by omega) (by have := b.toNat_lt; omega)
  exact key l h
theorem rWide (s : ByteArray) (c w : Int) : oR_Wide.f s c w = some (if c = 0 then (if w < 1 ∨ 8 < w then (0, s, 1) else if w > (s.size : Int) then (0, s, 10) else if val (s.data.toList.take w.toNat) < 9223372036854775808 then ((val (s.data.toList.take w.toNat) : Int), ofL (s.data.toList.drop w.toNat), 0) else (0, s, 1)) else (0, s, c)) := by
  have h0 : (⟨#[]⟩ : ByteArray).size ≤ 8 := by decide
  have h0' : Oct.wideU (BR.ints ⟨#[]⟩) < 9223372036854775808 := by decide
  have h0v : Oct.wideU (BR.ints ⟨#[]⟩) = 0 := by decide
  unfold oR_Wide.f
  by_cases hc : c = 0
  · subst hc
    by_cases hw : w < 1 ∨ 8 < w
    · simp only [if_pos hw, if_true, oR_Refuse.f, Option.bind_some, rBytes, show ¬ (1 : Int) = 0 by decide, if_false]
      simp [h0, h0v]
    · simp only [if_neg hw, if_true, Option.bind_some, rBytes]
      simp only [if_neg (show ¬ w < 0 by omega)]
      by_cases hg : w > (s.size : Int)
      · simp only [if_pos hg]
        simp [h0, h0v]
      · simp only [if_neg hg]
        have hl : (s.data.toList.take w.toNat).length = w.toNat := by rw [List.length_take]; simp; omega
        have hs8 : (ofL (s.data.toList.take w.toNat)).size ≤ 8 := by rw [ofL_size, hl]; omega
        have hv : Oct.wideU (BR.ints (ofL (s.data.toList.take w.toNat))) = (val (s.data.toList.take w.toNat) : Int) := wideU_val (s.data.toList.take w.toNat) (by rw [hl]; omega)
        simp only [if_pos hs8, hv]
        by_cases hb : val (s.data.toList.take w.toNat) < 9223372036854775808
        · simp only [if_pos hb, if_pos (show (val (s.data.toList.take w.toNat) : Int) < 9223372036854775808 by omega)]
        · simp only [if_neg hb, if_neg (show ¬ (val (s.data.toList.take w.toNat) : Int) < 9223372036854775808 by omega)]
          simp [oR_Refuse.f]
  · have e : (if w < 1 ∨ 8 < w then oR_Refuse.f s c 1 else some (s, c)) = some (s, c) := by
      unfold oR_Refuse.f
      rw [if_neg hc]
      split <;> rfl
    rw [e]
    simp only [Option.bind_some, rBytes, if_neg hc]
    simp [h0, h0v]
theorem rText (s : ByteArray) (c most : Int) : oR_Text.f s c most = some (if c = 0 then (if (rdG most s.data.toList).2.2 = 0 then (if (rdG most s.data.toList).1 > ((s.data.toList.drop (rdG most s.data.toList).2.1.toNat).length : Int) then (⟨#[]⟩, s, 10) else (ofL ((s.data.toList.drop (rdG most s.data.toList).2.1.toNat).take (rdG most s.data.toList).1.toNat), ofL ((s.data.toList.drop (rdG most s.data.toList).2.1.toNat).drop (rdG most s.data.toList).1.toNat), 0)) else (⟨#[]⟩, s, (rdG most s.data.toList).2.2)) else (⟨#[]⟩, s, c)) := by
  unfold oR_Text.f
  rw [rGroups s c most 40 (by decide)]
  simp only [Option.bind_some]
  obtain ⟨_, _, _, h4, _⟩ := rdG_long most s.data.toList
  by_cases hc : c = 0
  · simp only [if_pos hc]
    by_cases he : (rdG most s.data.toList).2.2 = 0
    · simp only [he, rBytes, if_true]
      rw [if_neg (by omega), ofL_size]
      by_cases hg : (rdG most s.data.toList).1 > ((s.data.toList.drop (rdG most s.data.toList).2.1.toNat).length : Int)
      · rw [if_pos hg, if_pos hg]
        rfl
      · rw [if_neg hg, if_neg hg]
        simp only [Option.bind_some, if_true, ofL_L]
    · simp only [if_neg he, rBytes, Option.bind_some]
  · simp only [if_neg hc, rBytes, Option.bind_some]
end Go.Proofs.YtipenplplmdclaaDoor.OctF
end
section
namespace Go.Proofs.YtipenplplmdclaaDoor.OctF
open Go Go.RowKit Go.Proofs.YtipenplplmdclaaDoor.Px Go.Proofs.YtipenplplmdclaaDoorW.PrintWords Go.Proofs.YtipenplplmdclaaDoor.Str
def Rel (S s : ByteArray) (A : Nat) : Prop := A ≤ S.size ∧ s = ofL (S.data.toList.drop A)
theorem Rel.size {S s : ByteArray} {A : Nat} (h : Rel S s A) : s.size = S.size - A := by rw [h.2, ofL_size, List.length_drop, ← size_L]
theorem Rel.list {S s : ByteArray} {A : Nat} (h : Rel S s A) : s.data.toList = S.data.toList.drop A := by rw [h.2, ofL_L]
theorem Rel.step {S s : ByteArray} {A : Nat} (h : Rel S s A) (j : Nat) (hj : A + j ≤ S.size) : Rel S (ofL (s.data.toList.drop j)) (A + j) := ⟨hj, by rw [h.list, List.drop_drop]⟩
end Go.Proofs.YtipenplplmdclaaDoor.OctF
end
section
namespace Go.Proofs.YtipenplplmdclaaDoor.Tkt
open Go Go.RowKit Go.Proofs.YtipenplplmdclaaDoor.Px Go.Proofs.YtipenplplmdclaaDoorW.PrintWords Go.Proofs.YtipenplplmdclaaDoor.Str Go.Proofs.YtipenplplmdclaaDoor.OctF
set_option linter.unusedSimpArgs false
set_option linter.unusedVariables false
theorem oG (s : ByteArray) (c most : Int) (hm : 0 ≤ most) (k : Nat) (hk : 19 ≤ k) : ∃ (r : Int) (s' : ByteArray) (c' : Int), oR_Groups.f k s c most = some (r, s', c') ∧ s'.size ≤ s.size ∧ 0 ≤ r ∧ r ≤ most ∧ r < 9223372036854775808 ∧ (c' = 0 → c = 0 ∧ s.data.toList = gi r ++ s'.data.toList) := by
  rw [rGroups s c most k hk]
  have hl : s.data.toList.length = s.size := by simp
  by_cases hc : c = 0
  · rw [if_pos hc]
    obtain ⟨g1, g2, g3, g4, g5⟩ := rdG_long most s.data.toList
    obtain ⟨m1, m2⟩ := rdG_most most 9 0 s.data.toList 0 hm (by decide) (by decide)
    refine ⟨_, _, _, rfl, ?_, g4, m1, m2, fun h => ⟨hc, ?_⟩⟩
    · rw [ofL_size, List.length_drop]; omega
    · obtain ⟨m, j, h1, h2, h3, h4⟩ := rdG_inv most s.data.toList h
      rw [ofL_L, h1, h2]
      simp only [gi, Int.toNat_natCast]
      rw [h4, List.take_append_drop]
  · rw [if_neg hc]
    exact ⟨_, _, _, rfl, Nat.le_refl _, by omega, hm, by omega, fun h => absurd h hc⟩
theorem oW (s : ByteArray) (c : Int) : ∃ (r : Int) (s' : ByteArray) (c' : Int), oR_Wide.f s c 1 = some (r, s', c') ∧ s'.size ≤ s.size ∧ 0 ≤ r ∧ r < 256 ∧ (c' = 0 → c = 0 ∧ s.data.toList = UInt8.ofNat r.toNat :: s'.data.toList) := by
  rw [rWide s c 1]
  have hl : s.data.toList.length = s.size := by simp
  by_cases hc : c = 0
  · rw [if_pos hc, if_neg (by omega)]
    by_cases h1 : (1 : Int) > (s.size : Int)
    · rw [if_pos h1]
      exact ⟨_, _, _, rfl, Nat.le_refl _, by omega, by omega, fun h => absurd h (by decide)⟩
    · rw [if_neg h1]
      cases hs : s.data.toList with
      | nil => rw [hs] at hl; simp at hl; omega
      | cons b t =>
        have hv : val ([b] : List UInt8) = b.toNat := by simp [val]
        have e : (b :: t).take (1 : Int).toNat = [b] := rfl
        have e2 : (b :: t).drop (1 : Int).toNat = t := rfl
        rw [e, e2, hv, if_pos (by have := b.toNat_lt; omega)]
        refine ⟨_, _, _, rfl, ?_, by omega, by have := b.toNat_lt; omega, fun _ => ⟨hc, ?_⟩⟩
        · rw [ofL_size]
          rw [hs] at hl
          simp at hl
          omega
        · rw [ofL_L, Int.toNat_natCast]
          congr 1
          exact (UInt8.ofNat_toNat (x := b)).symm
  · rw [if_neg hc]
    exact ⟨_, _, _, rfl, Nat.le_refl _, by omega, by omega, fun h => absurd h hc⟩
theorem oT (s : ByteArray) (c most : Int) (hm : 0 ≤ most) : ∃ (r : ByteArray) (s' : ByteArray) (c' : Int), oR_Text.f s c most = some (r, s', c') ∧ s'.size ≤ s.size ∧ r.size ≤ s.size ∧ (c' = 0 → c = 0 ∧ s.data.toList = txt r ++ s'.data.toList) := by
  rw [rText s c most]
  have hl : s.data.toList.length = s.size := by simp
  have z0 : (⟨#[]⟩ : ByteArray).size = 0 := rfl
  by_cases hc : c = 0
  · rw [if_pos hc]
    by_cases he : (rdG most s.data.toList).2.2 = 0
    · rw [if_pos he]
      obtain ⟨m, j, h1, h2, h3, h4⟩ := rdG_inv most s.data.toList he
      rw [h1, h2]
      simp only [Int.toNat_natCast]
      by_cases hg : (m : Int) > ((s.data.toList.drop j).length : Int)
      · rw [if_pos hg]
        exact ⟨_, _, _, rfl, Nat.le_refl _, by rw [z0]; omega, fun h => absurd h (by decide)⟩
      · rw [if_neg hg]
        have hml : ((s.data.toList.drop j).take m).length = m := by rw [List.length_take]; omega
        refine ⟨_, _, _, rfl, ?_, ?_, fun _ => ⟨hc, ?_⟩⟩
        · rw [ofL_size, List.length_drop, List.length_drop]; omega
        · rw [ofL_size, hml, ← hl]; rw [List.length_drop] at hg; omega
        · rw [txt, ofL_size, hml, ofL_L, ofL_L, h4, List.append_assoc, List.take_append_drop, List.take_append_drop]
    · rw [if_neg he]
      exact ⟨_, _, _, rfl, Nat.le_refl _, by rw [z0]; omega, fun h => absurd h he⟩
  · rw [if_neg hc]
    exact ⟨_, _, _, rfl, Nat.le_refl _, by rw [z0]; omega, fun h => absurd h hc⟩
theorem oBf (s : ByteArray) : oR_Bytes.f s 0 (s.size : Int) = some (s, ofL [], 0) := by
  have hl : s.data.toList.length = s.size := by simp
  rw [rBytes, if_pos rfl, if_neg (by omega), if_neg (by omega), Int.toNat_natCast, List.take_of_length_le (by omega), List.drop_of_length_le (by omega), ofL_of]
theorem oB (s : ByteArray) (c : Int) : ∃ (r s' : ByteArray) (c' : Int), oR_Bytes.f s c (s.size : Int) = some (r, s', c') ∧ r.size ≤ s.size ∧ s'.size ≤ s.size ∧ (c' = 0 → c = 0 ∧ r = s ∧ s'.data.toList = []) := by
  by_cases hc : c = 0
  · subst hc
    exact ⟨_, _, _, oBf s, Nat.le_refl _, Nat.zero_le _, fun _ => ⟨rfl, rfl, rfl⟩⟩
  · rw [rBytes, if_neg hc]
    exact ⟨_, _, _, rfl, Nat.zero_le _, Nat.le_refl _, fun h => absurd h hc⟩
theorem oD (s : ByteArray) (c : Int) : ∃ r : Int, oR_Done.f s c = some (r, s, c) ∧ (r = 0 → c = 0 ∧ s.data.toList = []) := by
  unfold oR_Done.f
  by_cases hc : c = 0
  · rw [if_pos hc]
    by_cases hs : s.toList = []
    · rw [if_pos hs]
      exact ⟨_, rfl, fun h => ⟨h, by rw [toList_L] at hs; exact hs⟩⟩
    · rw [if_neg hs]
      exact ⟨_, rfl, fun h => absurd h (by decide)⟩
  · rw [if_neg hc]
    exact ⟨_, rfl, fun h => absurd h hc⟩
end Go.Proofs.YtipenplplmdclaaDoor.Tkt
end
section
namespace Go.Proofs.YtipenplplmdclaaDoor.Tkt
open Go Go.RowKit Go.Proofs.YtipenplplmdclaaDoor.Px Go.Proofs.YtipenplplmdclaaDoorW.PrintWords Go.Proofs.YtipenplplmdclaaDoor.Str Go.Proofs.YtipenplplmdclaaDoor.OctF Go.Proofs.YtipenplplmdclaaDoor.CrcB
set_option linter.unusedSimpArgs false
set_option linter.unusedVariables false
theorem short_f (q w id : Int) (a b c : ByteArray) (n : Int) (d : ByteArray) (ta f l : Int) (ak : Bool) (y : ByteArray) (ha : a.size ≤ 140737488351232) (hb : b.size ≤ 140737488351232) (hc : c.size ≤ 140737488351232) (hd : d.size ≤ 140737488351232) (hy : y.size ≤ 140737488351232) :
    gonglaw23_short.f q w id a b c n d ta f l ak y = some (decide (a.size + b.size + c.size + d.size + y.size < 4000)) := by
  unfold gonglaw23_short.f
  rw [wrap64_id (x := (a.size : Int) + (b.size : Int)) (by omega) (by omega), wrap64_id (x := (a.size : Int) + (b.size : Int) + (c.size : Int)) (by omega) (by omega), wrap64_id (x := (a.size : Int) + (b.size : Int) + (c.size : Int) + (d.size : Int)) (by omega) (by omega), wrap64_id (by omega) (by omega)]
  exact congrArg some (decide_eq_decide.2 ⟨fun z => by omega, fun z => by omega⟩)
def opnR (l : List UInt8) (b : UInt8) : ByteArray × Int × Bool := if 4 ≤ l.length ∧ run all l = residue ∧ (l.take (l.length - 4)).take 1 = [b] then (ofL ((l.take (l.length - 4)).drop 1), 0, true) else (⟨#[]⟩, 0, false)
theorem topen_f (s : ByteArray) (b : UInt8) (hs : s.size ≤ 1000000) : ticket_open.f s (⟨#[b]⟩ : ByteArray) = some (opnR s.data.toList b) := by
  have hl : s.data.toList.length = s.size := by simp
  have h1 : (⟨#[b]⟩ : ByteArray).size = 1 := rfl
  have hbl : (⟨#[b]⟩ : ByteArray).toList = [b] := by rw [toList_L]
  unfold ticket_open.f opnR
  rw [open_f s (by omega), Option.bind_some, h1, hbl]
  by_cases c : 4 ≤ s.size ∧ run all s.data.toList = residue
  · have hx : (s.extract 0 (s.size - 4)).data.toList = s.data.toList.take (s.size - 4) := pre_L s _
    have hxs : (s.extract 0 (s.size - 4)).size = s.size - 4 := by rw [size_L, hx, List.length_take, hl]; omega
    rw [if_pos c]
    simp only [Bool.true_eq_false, if_false]
    rw [hxs, hl]
    by_cases c1 : s.size - 4 < 1
    · rw [if_pos c1, if_neg]
      rintro ⟨_, _, c2⟩
      have := congrArg List.length c2
      simp at this
      omega
    · rw [if_neg c1, toList_L, pre_L, hx]
      by_cases c2 : (s.data.toList.take (s.size - 4)).take 1 = [b]
      · rw [if_pos c2, if_pos ⟨c.1, c.2, c2⟩]
        congr 2
        apply ext
        have := post_L (s.extract 0 (s.size - 4)) 1
        rw [hxs, hx] at this
        rw [this, ofL_L]
      · rw [if_neg c2, if_neg (fun z => c2 z.2.2)]
  · rw [if_neg c, if_pos rfl, if_neg (fun z => c ⟨by have := z.1; omega, z.2.1⟩)]
theorem opnR_tag (l : List UInt8) (b c : UInt8) : opnR (tagL (c :: l)) b = if c = b then (ofL l, 0, true) else (⟨#[]⟩, 0, false) := by
  have hlen := tagL_length (c :: l)
  have ht : (tagL (c :: l)).take ((tagL (c :: l)).length - 4) = c :: l := by
    rw [hlen, Nat.add_sub_cancel]
    show ((c :: l) ++ _).take _ = _
    rw [List.take_left']
    rfl
  unfold opnR
  rw [ht, run_tagL]
  by_cases hc : c = b
  · subst hc
    rw [if_pos ⟨by rw [hlen]; omega, rfl, rfl⟩, if_pos rfl]
    rfl
  · rw [if_neg (fun z => hc (by simpa using z.2.2)), if_neg hc]
def ackR (l : List UInt8) : Int × Int := match opnR l 65 with
  | (s, _, ok) => if ok = true then (if (rdG 1152921504606846976 s.data.toList).2.2 = 0 ∧ s.data.toList.drop (rdG 1152921504606846976 s.data.toList).2.1.toNat = [] ∧ 1 ≤ (rdG 1152921504606846976 s.data.toList).1 then ((rdG 1152921504606846976 s.data.toList).1, 0) else (0, 230)) else (0, 230)
theorem opnR_code (l : List UInt8) (b : UInt8) : (opnR l b).2.1 = 0 := by unfold opnR; split <;> rfl
theorem tacked_k (s : ByteArray) (hs : s.size ≤ 1000000) (k : Nat) (hk : 19 ≤ k) : ticket_Acked.f k s = some (ackR s.data.toList) := by
  unfold ticket_Acked.f ackR
  rw [topen_f s 65 hs, Option.bind_some]
  have hc := opnR_code s.data.toList 65
  generalize opnR s.data.toList 65 = o at hc
  obtain ⟨t, c, ok⟩ := o
  simp only at hc
  subst hc
  simp only
  cases ok with
  | false => simp
  | true =>
    simp only [if_true]
    rw [rGroups t 0 _ k hk, Option.bind_some]
    simp only [if_true]
    obtain ⟨g1, g2, g3, g4, g5⟩ := rdG_long 1152921504606846976 t.data.toList
    by_cases h0 : (rdG 1152921504606846976 t.data.toList).2.2 = 0
    · by_cases hd : t.data.toList.drop (rdG 1152921504606846976 t.data.toList).2.1.toNat = []
      · by_cases h1 : (rdG 1152921504606846976 t.data.toList).1 < 1
        · simp [oR_Done.f, toList_L, h0, hd, h1, show ¬ (1 ≤ (rdG 1152921504606846976 t.data.toList).1) by omega]
        · simp [oR_Done.f, toList_L, h0, hd, h1, show 1 ≤ (rdG 1152921504606846976 t.data.toList).1 by omega]
      · simp [oR_Done.f, oR_Refuse.f, toList_L, h0, hd]
    · simp [oR_Done.f, oR_Refuse.f, toList_L, h0]
theorem tacked_ev (s : ByteArray) (hs : s.size ≤ 1000000) : Ev (fun k => ticket_Acked.f k s) (ackR s.data.toList) := ⟨19, fun k hk => tacked_k s hs k hk⟩
theorem ackR_ack (n : Int) (h0 : 1 ≤ n) (h1 : n ≤ 1152921504606846976) : ackR (tagL (ackL n)) = (n, 0) := by
  unfold ackR ackL
  rw [opnR_tag, if_pos rfl]
  simp only [if_true, ofL_L]
  have hr := rdG_grp 1152921504606846976 n.toNat [] (by omega) (by omega)
  rw [List.append_nil] at hr
  show (if (rdG 1152921504606846976 (gi n)).2.2 = 0 ∧ (gi n).drop (rdG 1152921504606846976 (gi n)).2.1.toNat = [] ∧ 1 ≤ (rdG 1152921504606846976 (gi n)).1 then ((rdG 1152921504606846976 (gi n)).1, (0 : Int)) else (0, 230)) = (n, 0)
  rw [show rdG 1152921504606846976 (gi n) = _ from hr]
  simp only [Int.toNat_natCast]
  rw [if_pos ⟨trivial, by unfold gi; simp, by omega⟩]
  congr 1
  omega
theorem works_ev : Ev (fun k => gonglaw23_works.f k) true := by
  obtain ⟨K1, h1⟩ := tack_ev 1
  have e1 : ackB 1 = true := rfl
  have e2 : ackL 1 = [65, 1] := by
    have : grp 1 = [1] := by rw [grp, hi]; rfl
    show 65 :: grp 1 = _
    rw [this]
  obtain ⟨K2, h2⟩ := tacked_ev (ofL (tagL (ackL 1))) (by rw [ofL_size, tagL_length, e2]; decide)
  rw [ofL_L, ackR_ack 1 (by decide) (by decide)] at h2
  refine ⟨K1 + K2, fun k hk => ?_⟩
  have ht : crc_Tag.f (⟨#[65, 1]⟩ : ByteArray) = some (ofL (tagL (ackL 1))) := by
    rw [e2]
    exact tag_f (⟨#[65, 1]⟩ : ByteArray) (by decide)
  simp only [gonglaw23_works.f, h1 k (by omega), e1, if_true, Option.bind_some, h2 k (by omega), ht]
  rfl
end Go.Proofs.YtipenplplmdclaaDoor.Tkt
end
section
namespace Go.Proofs.YtipenplplmdclaaDoor.Tkt
open Go Go.RowKit Go.Proofs.YtipenplplmdclaaDoor.Px Go.Proofs.YtipenplplmdclaaDoorW.PrintWords Go.Proofs.YtipenplplmdclaaDoor.Str Go.Proofs.YtipenplplmdclaaDoor.OctF Go.Proofs.YtipenplplmdclaaDoor.CrcB
set_option linter.unusedSimpArgs false
set_option linter.unusedVariables false
theorem plB_size {s : ByteArray} {m : Int} (h : plB s m = true) : (s.size : Int) ≤ m := by
  unfold plB at h
  split at h
  · simp only [Bool.and_eq_true, decide_eq_true_eq] at h
    exact h.2
  · cases h
theorem evB_sizes {a b c : ByteArray} {n : Int} {d : ByteArray} (h : evB a b c n d = true) : a.size ≤ 64 ∧ b.size ≤ 64 ∧ c.size ≤ 128 ∧ d.size ≤ 1024 := by
  simp only [evB, Bool.and_eq_true] at h
  obtain ⟨_, _, h1, h2, h3, h4, _⟩ := h
  have := plB_size h1
  have := plB_size h2
  have := plB_size h3
  have := plB_size h4
  omega
theorem row_who {ak : Bool} {y : ByteArray} (h : (if ak = true then whoB y else decide (y.toList = [])) = true) : y.size ≤ 64 := by
  cases ak with
  | true =>
    simp only [if_true, whoB, Bool.and_eq_true] at h
    have := plB_size h.2
    omega
  | false =>
    simp only [Bool.false_eq_true, if_false, decide_eq_true_eq, toList_L] at h
    have : y.data.toList.length = y.size := by simp
    rw [h] at this
    simp at this
    omega
theorem ndec_ev (s : ByteArray) (hs : s.size ≤ 100000) : ∃ v : ByteArray × ByteArray × ByteArray × Int × ByteArray × Int, Ev (fun k => norm_Decode.f k s) v ∧
    (v = (⟨#[]⟩, ⟨#[]⟩, ⟨#[]⟩, 0, ⟨#[]⟩, 180) ∨ ∃ a b c n d, v = (a, b, c, n, d, 0) ∧ evB a b c n d = true ∧ s.data.toList = evL a b c n d) := by
  obtain ⟨a, s1, c1, e1, z1, y1, f1⟩ := oT s 0 64 (by decide)
  obtain ⟨b, s2, c2, e2, z2, y2, f2⟩ := oT s1 c1 64 (by decide)
  obtain ⟨c, s3, c3, e3, z3, y3, f3⟩ := oT s2 c2 128 (by decide)
  obtain ⟨d, s4, c4, e4, z4, y4, f4⟩ := oT s3 c3 1024 (by decide)
  have hG : ∃ (n : Int) (s5 : ByteArray) (c5 : Int), (∀ k, 19 ≤ k → oR_Groups.f k s4 c4 5 = some (n, s5, c5)) ∧ s5.size ≤ s4.size ∧ (c5 = 0 → c4 = 0 ∧ s4.data.toList = gi n ++ s5.data.toList) := by
    obtain ⟨n, s5, c5, e5, z5, _, _, _, f5⟩ := oG s4 c4 5 (by decide) 19 (by decide)
    exact ⟨n, s5, c5, fun k hk => by rw [rGroups _ _ _ k hk, ← rGroups _ _ _ 19 (by decide)]; exact e5, z5, f5⟩
  obtain ⟨n, s5, c5, e5, z5, f5⟩ := hG
  obtain ⟨r, e6, f6⟩ := oD s5 c5
  by_cases hr : r = 0
  · obtain ⟨g5, g6⟩ := f6 hr
    obtain ⟨g4, q4⟩ := f5 g5
    obtain ⟨g3, q3⟩ := f4 g4
    obtain ⟨g2, q2⟩ := f3 g3
    obtain ⟨g1, q1⟩ := f2 g2
    obtain ⟨_, q0⟩ := f1 g1
    obtain ⟨K, hK⟩ := ncheck_ev a b c n d (by omega) (by omega) (by omega) (by omega)
    rcases Bool.eq_false_or_eq_true (evB a b c n d) with h | h
    · refine ⟨(a, b, c, n, d, 0), ⟨K + 19, fun k hk => ?_⟩, .inr ⟨a, b, c, n, d, rfl, h, ?_⟩⟩
      · simp only [norm_Decode.f, octet_Read.f, Option.bind_some, e1, e2, e3, e4, e5 k (by omega), e6, hr, if_true, hK k (by omega), h]
      · rw [q0, q1, q2, q3, q4, g6, List.append_nil]
        rfl
    · refine ⟨_, ⟨K + 19, fun k hk => ?_⟩, .inl rfl⟩
      simp only [norm_Decode.f, octet_Read.f, Option.bind_some, e1, e2, e3, e4, e5 k (by omega), e6, hr, if_true, hK k (by omega), h]
      rfl
  · refine ⟨_, ⟨19, fun k hk => ?_⟩, .inl rfl⟩
    simp only [norm_Decode.f, octet_Read.f, Option.bind_some, e1, e2, e3, e4, e5 k (by omega), e6, hr, if_false]
abbrev Tup := Int × Int × Int × ByteArray × ByteArray × ByteArray × Int × ByteArray × Int × Int × Int × Bool × ByteArray × Int
def zT : Tup := (0, 0, 0, ⟨#[]⟩, ⟨#[]⟩, ⟨#[]⟩, 0, ⟨#[]⟩, 0, 0, 0, false, ⟨#[]⟩, 230)
theorem akL_cons (ak : Bool) (r : List UInt8) : akL ak ++ r = UInt8.ofNat (if ak = true then 1 else 0) :: r := by cases ak <;> rfl
theorem tag_form {l : List UInt8} (h4 : 4 ≤ l.length) (hr : run all l = residue) {m : List UInt8} (hm : l.take (l.length - 4) = m) : l = tagL m := by
  rw [← hm]
  exact ((owns_iff l h4).2 hr).symm
theorem tdec_ev (s : ByteArray) (hs : s.size ≤ 100000) : ∃ v : Tup, Ev (fun k => ticket_Decode.f k s) v ∧
    (v = zT ∨ ∃ q w id a b c n d ta f l ak y, v = (q, w, id, a, b, c, n, d, ta, f, l, ak, y, 0) ∧ id < 9223372036854775808 ∧ tkB q w id a b c n d ta f l ak y = true ∧ s.data.toList = tagL (msgL q w id a b c n d ta f l ak y)) := by
  have ho := topen_f s 71 (by omega)
  have hl : s.data.toList.length = s.size := by simp
  by_cases hop : 4 ≤ s.data.toList.length ∧ run all s.data.toList = residue ∧ (s.data.toList.take (s.data.toList.length - 4)).take 1 = [71]
  case neg =>
    refine ⟨zT, ⟨0, fun k _ => ?_⟩, .inl rfl⟩
    rw [opnR, if_neg hop] at ho
    simp only [ticket_Decode.f, ho, Option.bind_some, Bool.false_eq_true, if_false]
    rfl
  rw [opnR, if_pos hop] at ho
  obtain ⟨p1, p2, p3⟩ := hop
  generalize hm : s.data.toList.take (s.data.toList.length - 4) = m at ho p3
  have hml : m.length ≤ 100000 := by rw [← hm, List.length_take]; omega
  have hst := tag_form p1 p2 hm
  have hm71 : m = 71 :: m.drop 1 := by
    cases m with
    | nil => simp at p3
    | cons x t => simp only [List.take_succ_cons, List.take_zero, List.cons.injEq, and_true] at p3; subst p3; rfl
  generalize m.drop 1 = m1 at hm71 ho
  have hm1 : m1.length ≤ 100000 := by rw [hm71] at hml; simp only [List.length_cons] at hml; omega
  have G : ∀ (s : ByteArray) (c most : Int), 0 ≤ most → ∃ (r : Int) (s' : ByteArray) (c' : Int), (∀ k, 19 ≤ k → oR_Groups.f k s c most = some (r, s', c')) ∧ s'.size ≤ s.size ∧ r < 9223372036854775808 ∧ (c' = 0 → c = 0 ∧ s.data.toList = gi r ++ s'.data.toList) := by
    intro s c most hmo
    obtain ⟨r, s', c', e, z, _, _, y, g⟩ := oG s c most hmo 19 (by decide)
    exact ⟨r, s', c', fun k hk => by rw [rGroups _ _ _ k hk, ← rGroups _ _ _ 19 (by decide)]; exact e, z, y, g⟩
  have h0s : (ofL m1).size ≤ 100000 := by rw [ofL_size]; omega
  have h0L : (ofL m1).data.toList = m1 := ofL_L m1
  generalize ofL m1 = s0 at ho h0s h0L
  obtain ⟨q, s1, c1, e1, z1, _, f1⟩ := G s0 0 1152921504606846976 (by decide)
  obtain ⟨w, s2, c2, e2, z2, w0, w1, f2⟩ := oW s1 c1
  obtain ⟨id, s3, c3, e3, z3, hid, f3⟩ := G s2 c2 9223372036854775807 (by decide)
  obtain ⟨ta, s4, c4, e4, z4, _, f4⟩ := G s3 c3 1099511627776 (by decide)
  obtain ⟨f, s5, c5, e5, z5, _, f5⟩ := G s4 c4 2305843009213693952 (by decide)
  obtain ⟨l, s6, c6, e6, z6, _, f6⟩ := G s5 c5 2305843009213693952 (by decide)
  obtain ⟨ak, s7, c7, e7, z7, a0, a1, f7⟩ := oW s6 c6
  obtain ⟨y, s8, c8, e8, z8, hy, f8⟩ := oT s7 c7 64 (by decide)
  obtain ⟨u, s9, c9, e9, hu, z9, f9⟩ := oB s8 c8
  obtain ⟨v, ⟨K1, h1⟩, hv⟩ := ndec_ev u (by omega)
  obtain ⟨r, e10, f10⟩ := oD s9 c9
  have hwalk : ∀ k, K1 + 19 ≤ k → ticket_Decode.f k s = (if r = 0 then (if v.2.2.2.2.2 = 0 then (if ak > 1 then some zT else ((ticket_Check.f k q w id v.1 v.2.1 v.2.2.1 v.2.2.2.1 v.2.2.2.2.1 ta f l (ak == 1) y).bind fun t => (if t = 0 then (some (q, w, id, v.1, v.2.1, v.2.2.1, v.2.2.2.1, v.2.2.2.2.1, ta, f, l, (ak == 1), y, 0)) else some zT))) else some zT) else some zT) := by
    intro k hk
    simp only [ticket_Decode.f, ho, Option.bind_some, if_true, e1 k (by omega), e2, e3 k (by omega), e4 k (by omega), e5 k (by omega), e6 k (by omega), e7, e8, oR_Left.f, e9, h1 k (by omega), e10]
    rfl
  by_cases hr : r = 0
  case neg =>
    refine ⟨zT, ⟨K1 + 19, fun k hk => ?_⟩, .inl rfl⟩
    show ticket_Decode.f k s = _
    rw [hwalk k hk, if_neg hr]
  obtain ⟨g9, n9⟩ := f10 hr
  obtain ⟨g8, n8, _⟩ := f9 g9
  obtain ⟨g7, n7⟩ := f8 g8
  obtain ⟨g6, n6⟩ := f7 g7
  obtain ⟨g5, n5⟩ := f6 g6
  obtain ⟨g4, n4⟩ := f5 g5
  obtain ⟨g3, n3⟩ := f4 g4
  obtain ⟨g2, n2⟩ := f3 g3
  obtain ⟨g1, n1⟩ := f2 g2
  obtain ⟨_, n0⟩ := f1 g1
  rcases hv with rfl | ⟨a, b, c, n, d, rfl, hev, hul⟩
  · refine ⟨zT, ⟨K1 + 19, fun k hk => ?_⟩, .inl rfl⟩
    show ticket_Decode.f k s = _
    rw [hwalk k hk, if_pos hr]
    rfl
  by_cases hak : ak > 1
  · refine ⟨zT, ⟨K1 + 19, fun k hk => ?_⟩, .inl rfl⟩
    show ticket_Decode.f k s = _
    rw [hwalk k hk, if_pos hr]
    simp only [if_true]
    rw [if_pos hak]
  obtain ⟨t1, t2, t3, t4⟩ := evB_sizes hev
  obtain ⟨K2, h2⟩ := tcheck_ev q w id a b c n d ta f l (ak == 1) y (by omega) (by omega) (by omega) (by omega) (by omega)
  rcases Bool.eq_false_or_eq_true (tkB q w id a b c n d ta f l (ak == 1) y) with ht | ht
  · refine ⟨(q, w, id, a, b, c, n, d, ta, f, l, (ak == 1), y, 0), ⟨K1 + K2 + 19, fun k hk => ?_⟩, .inr ⟨q, w, id, a, b, c, n, d, ta, f, l, (ak == 1), y, rfl, hid, ht, ?_⟩⟩
    · show ticket_Decode.f k s = _
      rw [hwalk k (by omega), if_pos hr]
      simp only [if_true]
      rw [if_neg hak, show ticket_Check.f k q w id a b c n d ta f l (ak == 1) y = _ from h2 k (by omega), ht]
      rfl
    · have hakl : UInt8.ofNat ak.toNat :: s7.data.toList = akL (ak == 1) ++ s7.data.toList := by
        rw [akL_cons]
        congr 1
        rcases (by omega : ak = 0 ∨ ak = 1) with rfl | rfl <;> rfl
      rw [hst, hm71, msgL, payL, rowL, ← hul, n8, ← n7, ← hakl, ← n6, ← n5, ← n4, ← n3, ← n2, ← n1, ← n0, h0L]
  · refine ⟨zT, ⟨K1 + K2 + 19, fun k hk => ?_⟩, .inl rfl⟩
    show ticket_Decode.f k s = _
    rw [hwalk k (by omega), if_pos hr]
    simp only [if_true]
    rw [if_neg hak, show ticket_Check.f k q w id a b c n d ta f l (ak == 1) y = _ from h2 k (by omega), ht]
    rfl
end Go.Proofs.YtipenplplmdclaaDoor.Tkt
end
section
namespace Go.Proofs.YtipenplplmdclaaDoor.Px
open Go Go.RowKit Go.Proofs.YtipenplplmdclaaDoorW.PrintWords
structure S23 where
  f0 : ByteArray
  f1 : ByteArray
  f2 : ByteArray
  f3 : Int
  f4 : ByteArray
structure S25 where
  f0 : Int
  f1 : S23
  f2 : Int
  f3 : Int
  f4 : Int
  f5 : Bool
  f6 : ByteArray
structure S27 where
  f0 : Int
  f1 : Int
  f2 : S25
def k23 : Kd S23 := Kd.iso (Kd.pair Kd.string (Kd.pair Kd.string (Kd.pair Kd.string (Kd.pair (Kd.int .i64) Kd.string)))) (fun x => (x.f0, x.f1, x.f2, x.f3, x.f4))
def k25 : Kd S25 := Kd.iso (Kd.pair (Kd.int .i64) (Kd.pair k23 (Kd.pair (Kd.int .i64) (Kd.pair (Kd.int .i64) (Kd.pair (Kd.int .i64) (Kd.pair Kd.bool Kd.string)))))) (fun x => (x.f0, x.f1, x.f2, x.f3, x.f4, x.f5, x.f6))
def k27 : Kd S27 := Kd.iso (Kd.pair (Kd.int .i64) (Kd.pair (Kd.int .i64) k25)) (fun x => (x.f0, x.f1, x.f2))
abbrev TkC (x : S27) : Array Value := #[.int .i64 x.f0, .int .i64 x.f1, .int .i64 x.f2.f0, .string x.f2.f1.f0, .string x.f2.f1.f1, .string x.f2.f1.f2, .int .i64 x.f2.f1.f3, .string x.f2.f1.f4, .int .i64 x.f2.f2, .int .i64 x.f2.f3, .int .i64 x.f2.f4, .bool x.f2.f5, .string x.f2.f6]
theorem tk_event {w : World} {x : S23} {cs : List Value} (h : k23.K w x cs) : cs = [.string x.f0, .string x.f1, .string x.f2, .int .i64 x.f3, .string x.f4] := by
  obtain ⟨a0, r0, he0, h0, r1, s1, he1, h1, r2, s2, he2, h2, r3, s3, he3, h3, h4⟩ := h
  have e0 : a0 = [.string x.f0] := h0
  have e1 : r1 = [.string x.f1] := h1
  have e2 : r2 = [.string x.f2] := h2
  have e3 : r3 = [.int .i64 x.f3] := h3
  have e4 : s3 = [.string x.f4] := h4
  rw [he0, he1, he2, he3, e0, e1, e2, e3, e4]
  rfl
theorem tk_row {w : World} {x : S25} {cs : List Value} (h : k25.K w x cs) : cs = [.int .i64 x.f0, .string x.f1.f0, .string x.f1.f1, .string x.f1.f2, .int .i64 x.f1.f3, .string x.f1.f4, .int .i64 x.f2, .int .i64 x.f3, .int .i64 x.f4, .bool x.f5, .string x.f6] := by
  obtain ⟨a0, r0, he0, h0, r1, s1, he1, h1, r2, s2, he2, h2, r3, s3, he3, h3, r4, s4, he4, h4, r5, s5, he5, h5, h6⟩ := h
  have e0 : a0 = [.int .i64 x.f0] := h0
  have e1 := tk_event h1
  have e2 : r2 = [.int .i64 x.f2] := h2
  have e3 : r3 = [.int .i64 x.f3] := h3
  have e4 : r4 = [.int .i64 x.f4] := h4
  have e5 : r5 = [.bool x.f5] := h5
  have e6 : s5 = [.string x.f6] := h6
  rw [he0, he1, he2, he3, he4, he5, e0, e1, e2, e3, e4, e5, e6]
  rfl
theorem tk_cells {w : World} {x : S27} {cs : Array Value} (h : k27.K w x cs.toList) : cs = TkC x := by
  obtain ⟨a0, r0, he0, h0, r1, s1, he1, h1, h2⟩ := h
  have e0 : a0 = [.int .i64 x.f0] := h0
  have e1 : r1 = [.int .i64 x.f1] := h1
  have e2 := tk_row h2
  apply Array.ext'
  rw [he0, he1, e0, e1, e2]
  rfl
end Go.Proofs.YtipenplplmdclaaDoor.Px
end
section
namespace Go.Proofs.YtipenplplmdclaaDoor.CrcB
open Go Go.RowKit Go.Proofs.YtipenplplmdclaaDoorW.PrintWords Go.Proofs.YtipenplplmdclaaDoor.Str
def intsL (l : List UInt8) : List Int := l.map fun b => (b.toNat : Int)
theorem ints_L (s : ByteArray) : BR.ints s = intsL s.data.toList := rfl
theorem nums_intsL (l : List UInt8) : strOfNums (intsL l) = ofL l := by
  apply ext
  rw [nums_L, ofL_L]
  exact map_u8 l
theorem u8_xor (a b : Nat) (ha : a < 256) (hb : b < 256) : Go.bits .xor .u8 (a : Int) (b : Int) = ((a ^^^ b : Nat) : Int) := by
  have hx : a ^^^ b < 2 ^ 8 := Nat.xor_lt_two_pow (by omega) (by omega)
  have h1 : (BitVec.ofInt 8 (a : Int)).toNat = a := by
    rw [BitVec.ofInt_natCast, BitVec.toNat_ofNat]; exact Nat.mod_eq_of_lt (by omega)
  have h2 : (BitVec.ofInt 8 (b : Int)).toNat = b := by
    rw [BitVec.ofInt_natCast, BitVec.toNat_ofNat]; exact Nat.mod_eq_of_lt (by omega)
  show IntKind.u8.wrap ((BitVec.ofInt 8 (a : Int) ^^^ BitVec.ofInt 8 (b : Int)).toNat : Int) = _
  rw [BitVec.toNat_xor, h1, h2, IntKind.wrap_u8]
  omega
theorem flip_list (l : List UInt8) (q : Nat) (hq : q < 8 * l.length) :
    ∃ l' : List UInt8, Turn.flipI (intsL l) q = intsL l' ∧ l'.length = l.length ∧ (∀ i, i ≠ q / 8 → l'[i]? = l[i]?) ∧ ∀ c, run c l' = run c l ^^^ An (8 * l.length + 31 - q) high := by
  have hi : q / 8 < l.length := by omega
  have hj : q % 8 < 8 := Nat.mod_lt _ (by decide)
  generalize hb : l[q / 8] = b
  have hg : l[q / 8]? = some b := by rw [List.getElem?_eq_getElem hi, hb]
  have hbl := b.toNat_lt
  have hp : 2 ^ (q % 8) < 256 := Nat.lt_of_lt_of_le (Nat.pow_lt_pow_right (by decide) hj) (by decide)
  have hx : b.toNat ^^^ 2 ^ (q % 8) < 256 := Nat.xor_lt_two_pow (n := 8) (by omega) (by omega)
  refine ⟨l.set (q / 8) (UInt8.ofNat (b.toNat ^^^ 2 ^ (q % 8))), ?_, by simp, fun i hne => by rw [List.getElem?_set_ne (Ne.symm hne)], fun c => ?_⟩
  · unfold Turn.flipI intsL
    rw [List.map_set]
    have e1 : (l.map fun b => (b.toNat : Int)).getD (q / 8) 0 = (b.toNat : Int) := by
      simp [List.getD, hg]
    have e2 : (2 : Int) ^ (q % 8) % 256 = ((2 ^ (q % 8) : Nat) : Int) := by
      have : ((2 : Int) ^ (q % 8)) = ((2 ^ (q % 8) : Nat) : Int) := by simp
      rw [this]
      exact Int.emod_eq_of_lt (Int.natCast_nonneg _) (Int.ofNat_lt.2 hp)
    rw [e1, e2, u8_xor _ _ hbl hp]
    congr 1
    rw [UInt8.toNat_ofNat', Nat.mod_eq_of_lt hx]
  · have h := run_flip c l (q / 8) b (UInt8.ofNat (b.toNat ^^^ 2 ^ (q % 8))) (q % 8) hj hi hg (by
      unfold byte bit
      rw [UInt8.toNat_ofNat', Nat.mod_eq_of_lt hx]
      apply BitVec.eq_of_toNat_eq
      have m1 : (b.toNat ^^^ 2 ^ (q % 8)) % 2 ^ 32 = b.toNat ^^^ 2 ^ (q % 8) := Nat.mod_eq_of_lt (by omega)
      have m2 : b.toNat % 2 ^ 32 = b.toNat := Nat.mod_eq_of_lt (by omega)
      have m3 : 2 ^ (q % 8) % 2 ^ 32 = 2 ^ (q % 8) := Nat.mod_eq_of_lt (by omega)
      rw [BitVec.toNat_xor, BitVec.toNat_ofNat, BitVec.toNat_ofNat, BitVec.toNat_ofNat, m1, m2, m3])
    rw [h]
    congr 2
    omega
def low : Nat → W → W
  | 0, _ => 0#32
  | k + 1, x => low k x ^^^ (if x.getLsbD k then bit k else 0#32)
theorem low_get (k : Nat) (hk : k ≤ 32) (x : W) (i : Nat) (hi : i < 32) : (low k x).getLsbD i = (decide (i < k) && x.getLsbD i) := by
  induction k with
  | zero => simp [low]
  | succ k ih =>
    unfold low
    rw [BitVec.getLsbD_xor, ih (by omega)]
    by_cases h : i = k
    · subst h
      cases hx : x.getLsbD i <;> simp [bit_get _ _ hi]
    · have h1 : (i < k + 1) = (i < k) := by apply propext; omega
      simp only [h1]
      split
      · rw [bit_get _ _ (by omega)]; simp [h]
      · simp
theorem low_all (x : W) : low 32 x = x := by
  apply BitVec.eq_of_getLsbD_eq
  intro i hi
  rw [low_get 32 (Nat.le_refl _) x i hi]
  simp [hi]
theorem bit_test (x : W) (k : Nat) : (Go.bits .and .u32 (I x / 2 ^ k) 1 = 1) ↔ x.getLsbD k = true := by
  have e : I x / 2 ^ k = I (x >>> k) := by
    unfold I
    rw [BitVec.toNat_ushiftRight, Nat.shiftRight_eq_div_pow]
    simp
  rw [e, lsb_I, BitVec.getLsbD_ushiftRight, Nat.add_zero]
theorem turn_list (l : List UInt8) (p : Nat) (x : W) (hp : p + 32 ≤ 8 * l.length) (k : Nat) (hk : k ≤ 32) :
    ∃ l' : List UInt8, Turn.turnI (intsL l) p (I x) k = intsL l' ∧ l'.length = l.length ∧ (∀ i, (i < p / 8 ∨ (p + 31) / 8 < i) → l'[i]? = l[i]?) ∧ ∀ c, run c l' = run c l ^^^ An (8 * l.length - p) (low k x) := by
  induction k with
  | zero => exact ⟨l, rfl, rfl, fun _ _ => rfl, fun c => by unfold low; rw [An_zero_arg, BitVec.xor_zero]⟩
  | succ k ih =>
    obtain ⟨l', e, hl, hsame, hr⟩ := ih (by omega)
    by_cases h : x.getLsbD k = true
    · obtain ⟨l2, e2, hl2, hs2, hr2⟩ := flip_list l' (p + k) (by omega)
      refine ⟨l2, by rw [Turn.turnI_yes ((bit_test x k).2 h), e, e2], by omega, fun i hi => ?_, fun c => ?_⟩
      · rw [hs2 i (by omega), hsame i hi]
      · rw [hr2, hr, BitVec.xor_assoc]
        have ee : 8 * l'.length + 31 - (p + k) = (8 * l.length - p) + (31 - k) := by omega
        rw [ee, An_add, ← bit_An (by omega), ← An_xor]
        show _ = run c l ^^^ An _ (low k x ^^^ (if x.getLsbD k then bit k else 0#32))
        rw [if_pos h]
    · refine ⟨l', by rw [Turn.turnI_no (fun z => h ((bit_test x k).1 z)), e], hl, hsame, fun c => ?_⟩
      rw [hr]
      show _ = run c l ^^^ An _ (low k x ^^^ (if x.getLsbD k then bit k else 0#32))
      rw [if_neg h, BitVec.xor_zero]
theorem turn_all (l : List UInt8) (p : Nat) (x : Int) (h0 : 0 ≤ x) (h1 : x < 4294967296) (hp : p + 32 ≤ 8 * l.length) :
    ∃ l' : List UInt8, Turn.turnI (intsL l) p x 32 = intsL l' ∧ l'.length = l.length ∧ (∀ i, (i < p / 8 ∨ (p + 31) / 8 < i) → l'[i]? = l[i]?) ∧ (∀ c, run c l' = run c l ↔ x = 0) := by
  obtain ⟨l', e, hl, hs, hr⟩ := turn_list l p (B x) hp 32 (Nat.le_refl _)
  rw [I_B h0 h1] at e
  refine ⟨l', e, hl, hs, fun c => ?_⟩
  rw [hr c, low_all]
  constructor
  · intro h
    have h2 : An (8 * l.length - p) (B x) = 0#32 := by
      have h3 : run c l ^^^ (run c l ^^^ An (8 * l.length - p) (B x)) = run c l ^^^ run c l := by rw [h]
      rw [← BitVec.xor_assoc, BitVec.xor_self, BitVec.zero_xor] at h3
      exact h3
    have h4 := An_zero h2
    rw [← I_B h0 h1, h4]
    decide
  · intro h
    subst h
    rw [show B 0 = 0#32 by decide, An_zero_arg, BitVec.xor_zero]
end Go.Proofs.YtipenplplmdclaaDoor.CrcB
end
section
namespace Go.Proofs.YtipenplplmdclaaDoor.Tkt
open Go Go.RowKit Go.Proofs.YtipenplplmdclaaDoor.Px Go.Proofs.YtipenplplmdclaaDoorW.PrintWords Go.Proofs.YtipenplplmdclaaDoor.Str Go.Proofs.YtipenplplmdclaaDoor.OctF Go.Proofs.YtipenplplmdclaaDoor.CrcB
set_option linter.unusedSimpArgs false
set_option linter.unusedVariables false
theorem below_tu (x n : Int) (h0 : 0 < n) (h1 : n ≤ 4611686018427387904) : gongbook_Below.f x n = some (x % n) := by
  unfold gongbook_Below.f
  rw [if_neg (by omega)]
  have hr := Int.tmod_lt_of_pos x h0
  have hl : -n < Int.tmod x n := by
    have := Int.lt_tmod_of_pos x h0
    omega
  rw [wrap64_id (by omega) (by omega)]
  congr 1
  have e : (Int.tmod x n + n).tmod n = (Int.tmod x n + n) % n := Int.tmod_eq_emod_of_nonneg (by omega)
  rw [e, Int.add_emod_right]
  rcases Int.le_total 0 x with hx | hx
  · rw [Int.tmod_eq_emod_of_nonneg hx, Int.emod_emod_of_dvd _ (Int.dvd_refl n)]
  · have : Int.tmod x n = x - n * Int.tdiv x n := by have := Int.mul_tdiv_add_tmod x n; omega
    rw [this, Int.sub_mul_emod_self_left]
theorem txt_le (s : ByteArray) (h : s.size ≤ 100000) : (txt s).length ≤ s.size + 9 := by
  have := (grp_length s.size (by omega)).2
  have e : s.data.toList.length = s.size := by simp
  rw [txt, List.length_append, e]
  omega
theorem tag_small {q : Int} {w : Int} {id : Int} {a : ByteArray} {b : ByteArray} {c : ByteArray} {n : Int} {d : ByteArray} {ta : Int} {f : Int} {l : Int} {ak : Bool} {y : ByteArray} (hid : id < 9223372036854775808) (h : tkB q w id a b c n d ta f l ak y = true) : (tagL (msgL q w id a b c n d ta f l ak y)).length ≤ 3000 ∧ 6 ≤ (tagL (msgL q w id a b c n d ta f l ak y)).length := by
  obtain ⟨q1, q2, q3, q4, hr⟩ := tkB_iff.1 h
  obtain ⟨r1, r2, r3, r4, r5, r6, r7⟩ := rowB_iff.1 hr
  obtain ⟨t1, t2, t3, t4, t5⟩ := timesB_iff.1 r5
  obtain ⟨s1, s2, s3, s4⟩ := evB_sizes r7
  have hn := evB_n r7
  have s5 := row_who r6
  have g1 := gi_len (show 0 ≤ q by omega) (show q < 9223372036854775808 by omega)
  have g2 := gi_len (show 0 ≤ id by omega) hid
  have g3 := gi_len (show 0 ≤ ta by omega) (show ta < 9223372036854775808 by omega)
  have g4 := gi_len t1 (show f < 9223372036854775808 by omega)
  have g5 := gi_len t3 (show l < 9223372036854775808 by omega)
  have g6 := gi_len hn.1 (show n < 9223372036854775808 by omega)
  have k1 := txt_le a (by omega)
  have k2 := txt_le b (by omega)
  have k3 := txt_le c (by omega)
  have k4 := txt_le d (by omega)
  have k5 := txt_le y (by omega)
  rw [tagL_length]
  simp only [msgL, payL, rowL, evL, List.length_cons, List.length_append, akL_len]
  omega
theorem tenc_no (q : Int) (w : Int) (id : Int) (a : ByteArray) (b : ByteArray) (c : ByteArray) (n : Int) (d : ByteArray) (ta : Int) (f : Int) (l : Int) (ak : Bool) (y : ByteArray) (ha : a.size ≤ 134217728) (hb : b.size ≤ 134217728) (hc : c.size ≤ 134217728) (hd : d.size ≤ 134217728) (hy : y.size ≤ 134217728) (h : tkB q w id a b c n d ta f l ak y = false) : Ev (fun k => ticket_Encode.f k q w id a b c n d ta f l ak y) (⟨#[]⟩, 230) := by
  obtain ⟨K, hK⟩ := tcheck_ev q w id a b c n d ta f l ak y (by omega) (by omega) (by omega) (by omega) (by omega)
  refine ⟨K, fun k hk => ?_⟩
  have h1 : ticket_Payload.f k q w id a b c n d ta f l ak y = some (⟨#[]⟩, 230) := by
    simp only [ticket_Payload.f, hK k hk, h, Option.bind_some]
    rfl
  simp only [ticket_Encode.f, h1, Option.bind_some]
  rfl
def code (u : Tup) : Int := u.2.2.2.2.2.2.2.2.2.2.2.2.2
def TTok (k : Nat) (z bits : Int) (s : ByteArray) : Prop := ∃ (p m : Nat) (u : Tup) (n g : Int) (o1 o2 : ByteArray) (k1 k2 : Bool) (u1 u2 : Tup),
  s.size ≤ 3000 ∧ 6 ≤ s.size ∧ gongbook_Below.f z (8 * (s.size : Int) - 31) = some (p : Int) ∧ p + 32 ≤ 8 * s.size ∧
  ticket_Decode.f k (strOfNums (Turn.turnI (BR.ints s) p bits 32)) = some u ∧ ticket_Acked.f k (strOfNums (Turn.turnI (BR.ints s) p bits 32)) = some (n, g) ∧ (bits ≠ 0 → u = zT ∧ g = 230) ∧
  gongbook_Below.f z (s.size : Int) = some (m : Int) ∧ m ≤ s.size ∧
  crc_Open.f (s.extract 0 m) = some (o1, k1) ∧ ticket_Decode.f k (s.extract 0 m) = some u1 ∧ (code u1 ≠ 230 → k1 = true) ∧
  crc_Open.f (s ++ ⟨#[120]⟩) = some (o2, k2) ∧ ticket_Decode.f k (s ++ ⟨#[120]⟩) = some u2 ∧ (code u2 ≠ 230 → k2 = true)
theorem open_own (s : ByteArray) (hs : s.size ≤ 100000) : ∃ (o : ByteArray) (ok : Bool) (u : Tup), crc_Open.f s = some (o, ok) ∧ Ev (fun k => ticket_Decode.f k s) u ∧ (code u ≠ 230 → ok = true) := by
  have ho := open_f s (by omega)
  obtain ⟨u, hu, hc⟩ := tdec_ev s hs
  have hl : s.data.toList.length = s.size := by simp
  by_cases h : 4 ≤ s.size ∧ run all s.data.toList = residue
  · rw [if_pos h] at ho
    exact ⟨_, _, u, ho, hu, fun _ => rfl⟩
  · rw [if_neg h] at ho
    refine ⟨_, _, u, ho, hu, fun hne => ?_⟩
    rcases hc with rfl | ⟨q, w, id, a, b, c, n, d, ta, f, l, ak, y, rfl, hid, ht, hst⟩
    · exact absurd rfl hne
    · exact absurd ⟨by rw [← hl, hst, tagL_length]; omega, by rw [hst]; exact run_tagL _⟩ h
theorem tt_ok (z bits : Int) (hb0 : 0 ≤ bits) (hb1 : bits < 4294967296) (T : List UInt8) (h6 : 6 ≤ T.length) (h3 : T.length ≤ 3000) (hT : run all T = residue) : ∃ K, ∀ k, K ≤ k → TTok k z bits (ofL T) := by
  have hm : 0 < 8 * (T.length : Int) - 31 := by omega
  have h0 := Int.emod_nonneg z (show 8 * (T.length : Int) - 31 ≠ 0 by omega)
  have h1 := Int.emod_lt_of_pos z hm
  obtain ⟨p, hp⟩ : ∃ p : Nat, z % (8 * (T.length : Int) - 31) = p := ⟨_, (Int.toNat_of_nonneg h0).symm⟩
  have g0 := Int.emod_nonneg z (show (T.length : Int) ≠ 0 by omega)
  have g1 := Int.emod_lt_of_pos z (show 0 < (T.length : Int) by omega)
  obtain ⟨m, hmm⟩ : ∃ m : Nat, z % (T.length : Int) = m := ⟨_, (Int.toNat_of_nonneg g0).symm⟩
  obtain ⟨l', e, hl, _, hr⟩ := turn_all T p bits hb0 hb1 (by omega)
  have hstr : strOfNums (Turn.turnI (BR.ints (ofL T)) p bits 32) = ofL l' := by rw [ints_L, ofL_L, e, nums_intsL]
  have hsz : (ofL T).size = T.length := ofL_size T
  obtain ⟨u, ⟨K1, hu⟩, huc⟩ := tdec_ev (ofL l') (by rw [ofL_size]; omega)
  obtain ⟨K2, ha⟩ := tacked_ev (ofL l') (by rw [ofL_size]; omega)
  rw [ofL_L] at ha huc
  obtain ⟨o1, k1, u1, e1, ⟨K3, e2⟩, e3⟩ := open_own ((ofL T).extract 0 m) (by rw [size_L, pre_L, List.length_take, ofL_L]; omega)
  obtain ⟨o2, k2, u2, f1, ⟨K4, f2⟩, f3⟩ := open_own (ofL T ++ ⟨#[120]⟩) (by rw [ByteArray.size_append, hsz, show (⟨#[120]⟩ : ByteArray).size = 1 from rfl]; omega)
  refine ⟨K1 + K2 + K3 + K4, fun k hk => ⟨p, m, u, (ackR l').1, (ackR l').2, o1, o2, k1, k2, u1, u2, by omega, by omega, ?_, by omega, ?_, ?_, fun hne => ?_, ?_, by omega, e1, e2 k (by omega), e3, f1, f2 k (by omega), f3⟩⟩
  · rw [hsz, below_tu z _ hm (by omega), hp]
  · rw [hstr]; exact hu k (by omega)
  · rw [hstr]; exact ha k (by omega)
  · have hno : run all l' ≠ residue := fun hz => hne ((hr all).1 (hz.trans hT.symm))
    refine ⟨?_, ?_⟩
    · rcases huc with rfl | ⟨q, w, id, a, b, c, n, d, ta, f, l, ak, y, rfl, hid, ht, hst⟩
      · rfl
      · exact absurd (by rw [hst]; exact run_tagL _) hno
    · unfold ackR opnR
      rw [if_neg (fun hz => hno hz.2.1)]
      rfl
  · rw [hsz, below_tu z _ (by omega) (by omega), hmm]
def TTGood (q : Int) (w : Int) (id : Int) (a : ByteArray) (b : ByteArray) (c : ByteArray) (n : Int) (d : ByteArray) (ta : Int) (f : Int) (l : Int) (ak : Bool) (y : ByteArray) (z bits : Int) : Prop := ∃ k, gonglaw23_works.f k = some true ∧ ∃ (s : ByteArray) (e : Int) (bo : Bool), ticket_Encode.f k q w id a b c n d ta f l ak y = some (s, e) ∧ gonglaw23_short.f q w id a b c n d ta f l ak y = some bo ∧ (e = 0 → TTok k z bits s)
theorem tt_good (q : Int) (w : Int) (id : Int) (a : ByteArray) (b : ByteArray) (c : ByteArray) (n : Int) (d : ByteArray) (ta : Int) (f : Int) (l : Int) (ak : Bool) (y : ByteArray) (z bits : Int) (ha : a.size ≤ 134217728) (hb : b.size ≤ 134217728) (hc : c.size ≤ 134217728) (hd : d.size ≤ 134217728) (hy : y.size ≤ 134217728) (hid : id < 9223372036854775808) (hb0 : 0 ≤ bits) (hb1 : bits < 4294967296) : TTGood q w id a b c n d ta f l ak y z bits := by
  obtain ⟨K9, k9⟩ := works_ev
  have hs := short_f q w id a b c n d ta f l ak y (by omega) (by omega) (by omega) (by omega) (by omega)
  rcases Bool.eq_false_or_eq_true (tkB q w id a b c n d ta f l ak y) with p | p
  · obtain ⟨_, _, _, _, hr⟩ := tkB_iff.1 p
    obtain ⟨_, _, _, _, _, r6, r7⟩ := rowB_iff.1 hr
    obtain ⟨s1, s2, s3, s4⟩ := evB_sizes r7
    have s5 := row_who r6
    obtain ⟨K1, k1⟩ := tenc_ev q w id a b c n d ta f l ak y (by omega) (by omega) (by omega) (by omega) (by omega) hid
    rw [p, if_pos rfl] at k1
    obtain ⟨t1, t2⟩ := tag_small hid p
    obtain ⟨K2, k2⟩ := tt_ok z bits hb0 hb1 (tagL (msgL q w id a b c n d ta f l ak y)) t2 t1 (run_tagL _)
    exact ⟨K9 + K1 + K2, k9 _ (by omega), _, _, _, k1 _ (by omega), hs, fun _ => k2 _ (by omega)⟩
  · obtain ⟨K1, k1⟩ := tenc_no q w id a b c n d ta f l ak y (by omega) (by omega) (by omega) (by omega) (by omega) p
    exact ⟨K9 + K1, k9 _ (by omega), _, _, _, k1 _ (by omega), hs, fun h => absurd h (by decide)⟩
end Go.Proofs.YtipenplplmdclaaDoor.Tkt
namespace Go.Proofs.YtipenplplmdclaaDoor.Pure
open Go Go.RowKit Go.Proofs.YtipenplplmdclaaDoor.Px Go.Proofs.YtipenplplmdclaaDoorW.PrintWords Go.Proofs.YtipenplplmdclaaDoor.Str Go.Proofs.YtipenplplmdclaaDoor.Tkt
theorem TicketTurned (x : S27) (z bits : Int) (h : (Lit.int .i64 x.f0).wf = true ∧ (Lit.int .i64 x.f1).wf = true ∧ (Lit.int .i64 x.f2.f0).wf = true ∧ (x.f2.f1.f0.size ≤ 134217728 ∧ x.f2.f1.f1.size ≤ 134217728 ∧ x.f2.f1.f2.size ≤ 134217728 ∧ (Lit.int .i64 x.f2.f1.f3).wf = true ∧ x.f2.f1.f4.size ≤ 134217728) ∧ (Lit.int .i64 x.f2.f2).wf = true ∧ (Lit.int .i64 x.f2.f3).wf = true ∧ (Lit.int .i64 x.f2.f4).wf = true ∧ True ∧ x.f2.f6.size ≤ 134217728) (_ : (Lit.int .i64 z).wf = true) (h2 : (Lit.int .u32 bits).wf = true) : true = true ∧ TTGood x.f0 x.f1 x.f2.f0 x.f2.f1.f0 x.f2.f1.f1 x.f2.f1.f2 x.f2.f1.f3 x.f2.f1.f4 x.f2.f2 x.f2.f3 x.f2.f4 x.f2.f5 x.f2.f6 z bits := by
  refine ⟨rfl, ?_⟩
  obtain ⟨_, _, h3, ⟨s1, s2, s3, _, s4⟩, _, _, _, _, s5⟩ := h
  exact tt_good x.f0 x.f1 x.f2.f0 x.f2.f1.f0 x.f2.f1.f1 x.f2.f1.f2 x.f2.f1.f3 x.f2.f1.f4 x.f2.f2 x.f2.f3 x.f2.f4 x.f2.f5 x.f2.f6 z bits s1 s2 s3 s4 s5 (by have := (wf_i64 h3).2; omega) (wf_u32 h2).1 (wf_u32 h2).2
end Go.Proofs.YtipenplplmdclaaDoor.Pure
end
section
namespace Go.Proofs.YtipenplplmdclaaDoor.Px
open Go.RowKit Go.Proofs.YtipenplplmdclaaDoorW.PrintWords Go.Proofs.YtipenplplmdclaaDoorW.PrintLast Go.Proofs.YtipenplplmdclaaDoorW.PrintMore
attribute [local go_sem] max2_int min2_int max_two min_two max_three min_three max_four min_four
set_option linter.unusedVariables false
set_option linter.unusedSimpArgs false
theorem far13 {w : World} {g j : Nat} (hj : j ≠ g) {v0 v1 v2 v3 v4 v5 v6 v7 v8 v9 v10 v11 v12 : Value} : (((((((((((((w.setCell ⟨g, 0, none⟩ v0).setCell ⟨g, 1, none⟩ v1).setCell ⟨g, 2, none⟩ v2).setCell ⟨g, 3, none⟩ v3).setCell ⟨g, 4, none⟩ v4).setCell ⟨g, 5, none⟩ v5).setCell ⟨g, 6, none⟩ v6).setCell ⟨g, 7, none⟩ v7).setCell ⟨g, 8, none⟩ v8).setCell ⟨g, 9, none⟩ v9).setCell ⟨g, 10, none⟩ v10).setCell ⟨g, 11, none⟩ v11).setCell ⟨g, 12, none⟩ v12).heap[j]? = w.heap[j]? := by
  repeat rw [Below.heap_setCell _ _ _ _ (by exact hj)]
theorem cell_same {w w' : World} {p : Addr} (h : w'.heap[p.block]? = w.heap[p.block]?) : w'.cell? p = w.cell? p := by
  unfold World.cell?
  rw [h]
theorem below13 {B w : World} {g : Nat} (h : Below B.heap.size B w) (hg : B.heap.size ≤ g) {v0 v1 v2 v3 v4 v5 v6 v7 v8 v9 v10 v11 v12 : Value} : Below B.heap.size B (((((((((((((w.setCell ⟨g, 0, none⟩ v0).setCell ⟨g, 1, none⟩ v1).setCell ⟨g, 2, none⟩ v2).setCell ⟨g, 3, none⟩ v3).setCell ⟨g, 4, none⟩ v4).setCell ⟨g, 5, none⟩ v5).setCell ⟨g, 6, none⟩ v6).setCell ⟨g, 7, none⟩ v7).setCell ⟨g, 8, none⟩ v8).setCell ⟨g, 9, none⟩ v9).setCell ⟨g, 10, none⟩ v10).setCell ⟨g, 11, none⟩ v11).setCell ⟨g, 12, none⟩ v12) := by
  exact bS_ (bS_ (bS_ (bS_ (bS_ (bS_ (bS_ (bS_ (bS_ (bS_ (bS_ (bS_ (bS_ h hg) hg) hg) hg) hg) hg) hg) hg) hg) hg) hg) hg) hg
set_option maxHeartbeats 8000000 in
set_option maxRecDepth 100000 in
theorem gonglaw23_TicketTurned.whole (cs0 : Array Value) (x : S27) (a1 a2 : Int) (r : Bool) (w : World) (hx0 : k27.K w x cs0.toList) (HT : Aside0 (TabW w)) (h : r = true ∧ Tkt.TTGood x.f0 x.f1 x.f2.f0 x.f2.f1.f0 x.f2.f1.f1 x.f2.f1.f2 x.f2.f1.f3 x.f2.f1.f4 x.f2.f2 x.f2.f3 x.f2.f4 x.f2.f5 x.f2.f6 a1 a2) :
    Calls Tryd.prog 6 #[.agg cs0, .int .i64 a1, .int .u32 a2] w fun e w' => e = .returned (.bool r) ∧ Below w.heap.size w w' := by
  obtain ⟨rfl, k, hw, s, e, bo, he, hs, hok⟩ := h
  obtain rfl := tk_cells hx0
  have HW := Aside0.mk hw
  have HE := Aside0.mk he
  have HS := Aside0.mk hs
  have HOK := Lib.hid hok
  have hu27 := Tryd.underlying27
  have HB := Aside0.mk (Below.refl w.heap.size w)
  clear hx0 hw he hs hok
  go_enter Tryd.func6, Tryd.ntmps6
  go_upto_region 4 with (first | ((with_reducible refine gD_ (N := 3) rfl ?_); refine gB_ ?hg (N := 3) ?hd (cs := #[.int .i64 x.f0, .int .i64 x.f1, .int .i64 x.f2.f0, .string x.f2.f1.f0, .string x.f2.f1.f1, .string x.f2.f1.f2, .int .i64 x.f2.f1.f3, .string x.f2.f1.f4, .int .i64 x.f2.f2, .int .i64 x.f2.f3, .int .i64 x.f2.f4, .bool x.f2.f5, .string x.f2.f6]) (t := 27) ?hr ?_; (case hd => rfl); (case hg => rfl); (case hr => first | (go_simp; done) | (go_simp; rfl)); intro g1 hg wb1 hbox hb; have GE1 := Aside0.mk ((by rw [hg]; exact (bZ_ (by repeat (first | (with_reducible first | exact HB.out | apply bA_ | apply bN_ | apply bD_) | exact HB.out)))) : w.heap.size ≤ g1); have n0_ := Aside0.mk (bT_ (by repeat (first | (with_reducible first | exact HB.out | apply bA_ | apply bN_ | apply bD_) | exact HB.out)) hb); have BK1 := Aside0.mk hbox; have HA1 := Aside0.mk hb; have HG1 := Aside0.mk hg;  clear HB; have HB := n0_; clear n0_ hb hbox hg; obtain ⟨c1_0, c1_1, c1_2, c1_3, c1_4, c1_5, c1_6, c1_7, c1_8, c1_9, c1_10, c1_11, c1_12⟩ := cell13 BK1.out; obtain ⟨z1_0, z1_1, z1_2, z1_3, z1_4, z1_5, z1_6, z1_7, z1_8, z1_9, z1_10, z1_11, z1_12⟩ := froz13 BK1.out) | (go_at_call 8; (with_reducible refine (gonglaw23_works.calls k true _ ⟨TabW.now HT.out (by repeat (first | (with_reducible first | exact HB.out | apply bA_ | apply bN_ | apply bD_) | exact HB.out))⟩ HW.out).mono ?_); rintro e W1 ⟨rfl, hb⟩; have n0_ := Aside0.mk (bT_ (by repeat (first | (with_reducible first | exact HB.out | apply bA_ | apply bN_ | apply bD_) | exact HB.out)) hb); have n1_ := Aside0.mk (kB_ (g := g1) (o := .cells #[.int .i64 x.f0, .int .i64 x.f1, .int .i64 x.f2.f0, .string x.f2.f1.f0, .string x.f2.f1.f1, .string x.f2.f1.f2, .int .i64 x.f2.f1.f3, .string x.f2.f1.f4, .int .i64 x.f2.f2, .int .i64 x.f2.f3, .int .i64 x.f2.f4, .bool x.f2.f5, .string x.f2.f6] 27 (0, 0)) (by (with_reducible repeat (first | refine kN_ ?_ _ | refine kD_ ?_ | refine kA_ ?_ _)); exact BK1.out) hb); clear BK1; have BK1 := n1_; clear n1_; clear HB; have HB := n0_; clear n0_ hb; obtain ⟨c2_0, c2_1, c2_2, c2_3, c2_4, c2_5, c2_6, c2_7, c2_8, c2_9, c2_10, c2_11, c2_12⟩ := cell13 BK1.out; obtain ⟨z2_0, z2_1, z2_2, z2_3, z2_4, z2_5, z2_6, z2_7, z2_8, z2_9, z2_10, z2_11, z2_12⟩ := froz13 BK1.out) | (go_at_call 11; (with_reducible refine (ticket_Encode.calls k x.f0 x.f1 x.f2.f0 x.f2.f1.f0 x.f2.f1.f1 x.f2.f1.f2 x.f2.f1.f3 x.f2.f1.f4 x.f2.f2 x.f2.f3 x.f2.f4 x.f2.f5 x.f2.f6 s e _ ⟨TabW.now HT.out (by repeat (first | (with_reducible first | exact HB.out | apply bA_ | apply bN_ | apply bD_) | exact HB.out))⟩ HE.out).mono ?_); rintro e W2 ⟨rfl, hb⟩; have n0_ := Aside0.mk (bT_ (by repeat (first | (with_reducible first | exact HB.out | apply bA_ | apply bN_ | apply bD_) | exact HB.out)) hb); have n1_ := Aside0.mk (kB_ (g := g1) (o := .cells #[.int .i64 x.f0, .int .i64 x.f1, .int .i64 x.f2.f0, .string x.f2.f1.f0, .string x.f2.f1.f1, .string x.f2.f1.f2, .int .i64 x.f2.f1.f3, .string x.f2.f1.f4, .int .i64 x.f2.f2, .int .i64 x.f2.f3, .int .i64 x.f2.f4, .bool x.f2.f5, .string x.f2.f6] 27 (0, 0)) (by (with_reducible repeat (first | refine kN_ ?_ _ | refine kD_ ?_ | refine kA_ ?_ _)); exact BK1.out) hb); clear BK1; have BK1 := n1_; clear n1_; clear HB; have HB := n0_; clear n0_ hb; obtain ⟨c3_0, c3_1, c3_2, c3_3, c3_4, c3_5, c3_6, c3_7, c3_8, c3_9, c3_10, c3_11, c3_12⟩ := cell13 BK1.out; obtain ⟨z3_0, z3_1, z3_2, z3_3, z3_4, z3_5, z3_6, z3_7, z3_8, z3_9, z3_10, z3_11, z3_12⟩ := froz13 BK1.out))
  cases bo with
  | false =>
    go_wp2_with (first | (go_at_call 7; (with_reducible refine (gonglaw23_short.calls x.f0 x.f1 x.f2.f0 x.f2.f1.f0 x.f2.f1.f1 x.f2.f1.f2 x.f2.f1.f3 x.f2.f1.f4 x.f2.f2 x.f2.f3 x.f2.f4 x.f2.f5 x.f2.f6 false _ HS.out).mono ?_); rintro e W3 ⟨rfl, hb⟩; have n0_ := Aside0.mk (bT_ (by repeat (first | (with_reducible first | exact HB.out | apply bA_ | apply bN_ | apply bD_) | exact HB.out)) hb); clear HB; have HB := n0_; clear n0_ hb))
    go_ret
    exact ⟨rfl, by repeat (first | (with_reducible first | exact HB.out | apply bA_ | apply bN_ | apply bD_) | exact HB.out)⟩
  | true =>
  by_cases he0 : e = 0
  case neg =>
    have d1 : (e != 0) = true := bne_iff_ne.mpr he0
    clear he0
    go_wp2_with (first | (go_at_call 7; (with_reducible refine (gonglaw23_short.calls x.f0 x.f1 x.f2.f0 x.f2.f1.f0 x.f2.f1.f1 x.f2.f1.f2 x.f2.f1.f3 x.f2.f1.f4 x.f2.f2 x.f2.f3 x.f2.f4 x.f2.f5 x.f2.f6 true _ HS.out).mono ?_); rintro e W3 ⟨rfl, hb⟩; have n0_ := Aside0.mk (bT_ (by repeat (first | (with_reducible first | exact HB.out | apply bA_ | apply bN_ | apply bD_) | exact HB.out)) hb); clear HB; have HB := n0_; clear n0_ hb))
    go_ret
    exact ⟨rfl, by repeat (first | (with_reducible first | exact HB.out | apply bA_ | apply bN_ | apply bD_) | exact HB.out)⟩
  have hok := HOK.out he0
  subst he0
  clear HOK
  obtain ⟨p, m, u, n, g, o1, o2, k1, k2, u1, u2, hs1, hs2, hb1, hp, hd1, ha1, hne, hb2, hm, ho1, hd2, hc1, ho2, hd3, hc2⟩ := hok
  obtain ⟨t1, t2, t3, t4, t5, t6, t7, t8, t9, t10, t11, t12, t13, t14⟩ := u
  obtain ⟨y1, y2, y3, y4, y5, y6, y7, y8, y9, y10, y11, y12, y13, y14⟩ := u1
  obtain ⟨z1, z2, z3, z4, z5, z6, z7, z8, z9, z10, z11, z12, z13, z14⟩ := u2
  have B1 := Lib.hid hb1
  have B2 := Lib.hid hb2
  have D1 := Lib.hid hd1
  have A1 := Lib.hid ha1
  have NE := Lib.hid hne
  have O1 := Lib.hid ho1
  have O2 := Lib.hid ho2
  have D2 := Lib.hid hd2
  have D3 := Lib.hid hd3
  have C1 := Lib.hid hc1
  have C2 := Lib.hid hc2
  have HM := Lib.hid hm
  clear hb1 hb2 hd1 ha1 hne ho1 ho2 hd2 hd3 hc1 hc2 hm
  go_wp2_with fail
  refine (gonglaw23_short.calls x.f0 x.f1 x.f2.f0 x.f2.f1.f0 x.f2.f1.f1 x.f2.f1.f2 x.f2.f1.f3 x.f2.f1.f4 x.f2.f2 x.f2.f3 x.f2.f4 x.f2.f5 x.f2.f6 true _ HS.out).mono ?_
  rintro e W3 ⟨rfl, hb⟩
  have n0_ := Aside0.mk (bT_ (by repeat (first | (with_reducible first | exact HB.out | apply bA_ | apply bN_ | apply bD_) | exact HB.out)) hb)
  clear HB hb
  have HB := n0_
  clear n0_
  clear BK1 HE HS HW
  have hrow := Go.Proofs.YtipenplplmdclaaDoor.BR.bytesWorld_row W3 5 s (by unfold maxLen; omega)
  have hbel := Go.Proofs.YtipenplplmdclaaDoor.BR.bytesWorld_below W3 5 s
  have kc := Lib.run_convert_string_bytes (P := Tryd.prog) W3 9 44 5 s Tryd.underlying9 Tryd.underlying44 Tryd.underlying5
  generalize Lib.bytesWorld W3 5 s = W4 at kc hrow hbel
  generalize grownCap W3 s.size 0 5 = c0 at kc hrow
  have HR := Lib.hid hrow
  have n0_ := Aside0.mk (HB.out.trans (hbel.mono HB.out.size))
  have hW3 : w.heap.size ≤ W3.heap.size := HB.out.size
  clear hrow hbel HB
  have HB := n0_
  clear n0_
  go_wp2_with fail
  refine (gongbook_Below.calls a1 (8 * (s.size : Int) - 31) p W4 B1.out).mono ?_
  rintro e W5 ⟨rfl, ⟨nd, rfl⟩⟩
  go_wp2_with fail
  go_loopw [44, 11] (fun i _ wr => ∃ j : Nat, j ≤ 32 ∧ i = .int .i64 j ∧ Hid (Go.Proofs.YtipenplplmdclaaDoor.BR.BRow wr W3.heap.size 5 W3.heap.size c0 (Go.Proofs.YtipenplplmdclaaDoor.Turn.turnI (Go.Proofs.YtipenplplmdclaaDoor.BR.ints s) p a2 j)) ∧ Aside0 (Below w.heap.size w wr)) (fun i _ _ => 32 - (intOf i).toNat)
  case atStart => exact ⟨0, by omega, rfl, Lib.hid (HR.out.drewN _), Aside0.mk (by exact bN_ HB.out _)⟩
  case round =>
    obtain ⟨j, hj, rfl, HR', HB'⟩ := hrel
    clear HR HB kc
    have HB := HB'
    clear HB'
    by_cases hlt : j < 32
    · by_cases hx : Go.bits .and .u32 (a2 / 2 ^ j) 1 = 1
      · have hxb : (Go.bits .and .u32 (a2 / 2 ^ j) 1 == 1) = true := beq_iff_eq.mpr hx
        have hX := Lib.hid hx
        clear hx
        have hlen : (Go.Proofs.YtipenplplmdclaaDoor.Turn.turnI (Go.Proofs.YtipenplplmdclaaDoor.BR.ints s) p a2 j).length = s.size := by rw [Go.Proofs.YtipenplplmdclaaDoor.Turn.turnI_length]; simp [Go.Proofs.YtipenplplmdclaaDoor.BR.ints]
        have i0 : 0 ≤ ((p : Int) + (j : Int)) / 8 := by omega
        have i1 : ((p : Int) + (j : Int)) / 8 < (s.size : Int) := by omega
        have eq8 : (((p : Int) + (j : Int)) / 8).toNat = (p + j) / 8 := by omega
        have hc := HR'.out.cell ((p + j) / 8) (by omega)
        have hf := HR'.out.free ((p + j) / 8) (by have := HR'.out.le; omega)
        have hs := Lib.hid (HR'.out.set ((p + j) / 8) (Go.bits .xor .u8 ((Go.Proofs.YtipenplplmdclaaDoor.Turn.turnI (Go.Proofs.YtipenplplmdclaaDoor.BR.ints s) p a2 j).getD ((p + j) / 8) 0) (2 ^ ((p + j) % 8) % 256)))
        have HEq := Lib.hid eq8
        have HL := Lib.hid hlen
        clear eq8 hlen
        go_wp2_with fail
        go_region
        go_wp2_with fail
        exact ⟨⟨j + 1, by omega, rfl, Lib.hid (by rw [Go.Proofs.YtipenplplmdclaaDoor.Turn.turnI_yes hX.out]; exact hs.out.drew), Aside0.mk (HB.out.setCell hW3 _).drew⟩, by simp [intOf]; omega⟩
      · have hxb : (Go.bits .and .u32 (a2 / 2 ^ j) 1 == 1) = false := beq_eq_false_iff_ne.mpr hx
        have hX := Lib.hid hx
        clear hx
        go_wp2_with fail
        exact ⟨⟨j + 1, by omega, rfl, Lib.hid (by rw [Go.Proofs.YtipenplplmdclaaDoor.Turn.turnI_no hX.out]; exact HR'.out), HB⟩, by simp [intOf]; omega⟩
    · obtain rfl : j = 32 := by omega
      clear hj hlt
      have hback := HR'.out.own_back (P := Tryd.prog) 44 Tryd.underlying44 Tryd.underlying5 9 Tryd.underlying9
      have hlen : (Go.Proofs.YtipenplplmdclaaDoor.Turn.turnI (Go.Proofs.YtipenplplmdclaaDoor.BR.ints s) p a2 32).length = s.size := by rw [Go.Proofs.YtipenplplmdclaaDoor.Turn.turnI_length]; simp [Go.Proofs.YtipenplplmdclaaDoor.BR.ints]
      rw [hlen] at hback
      have HL := Lib.hid hlen
      clear hlen

      go_wp2_with fail
      refine (ticket_Decode.calls k _ t1 t2 t3 t4 t5 t6 t7 t8 t9 t10 t11 t12 t13 t14 _ ⟨TabW.now HT.out HB.out⟩ D1.out).mono ?_
      rintro e W6 ⟨rfl, hb⟩
      have HR6 := Lib.hid (HR'.out.below hb)
      have n0_ := Aside0.mk (bT_ HB.out hb)
      clear HB hb HR' hback
      have HB := n0_
      clear n0_
      go_upto_region 15 with (first | ((with_reducible refine gD_ (N := 12) rfl ?_); refine gB_ ?hg (N := 12) ?hd (cs := #[.int .i64 0, .int .i64 0, .int .i64 0, .string (⟨#[]⟩ : ByteArray), .string (⟨#[]⟩ : ByteArray), .string (⟨#[]⟩ : ByteArray), .int .i64 0, .string (⟨#[]⟩ : ByteArray), .int .i64 0, .int .i64 0, .int .i64 0, .bool false, .string (⟨#[]⟩ : ByteArray)]) (t := 27) ?hr ?_; (case hd => rfl); (case hg => rfl); (case hr => first | (go_simp; done) | (go_simp; rfl)); intro g3 hg wb3 hbox hb; have GE3 := Aside0.mk ((by rw [hg]; exact (bZ_ (by repeat (first | (with_reducible first | exact HB.out | apply bA_ | apply bN_ | apply bD_) | exact HB.out)))) : w.heap.size ≤ g3); have n0_ := Aside0.mk (bT_ (by repeat (first | (with_reducible first | exact HB.out | apply bA_ | apply bN_ | apply bD_) | exact HB.out)) hb); have BK3 := Aside0.mk hbox; have HA3 := Aside0.mk hb; have HG3 := Aside0.mk hg;  clear HB; have HB := n0_; clear n0_ hb hbox hg; obtain ⟨c4_0, c4_1, c4_2, c4_3, c4_4, c4_5, c4_6, c4_7, c4_8, c4_9, c4_10, c4_11, c4_12⟩ := cell13 BK3.out; obtain ⟨z4_0, z4_1, z4_2, z4_3, z4_4, z4_5, z4_6, z4_7, z4_8, z4_9, z4_10, z4_11, z4_12⟩ := froz13 BK3.out))
      have hrow7 := blk_p13_0_12 (v0 := .int .i64 t1) (v1 := .int .i64 t2) (v2 := .int .i64 t3) (v3 := .string t4) (v4 := .string t5) (v5 := .string t6) (v6 := .int .i64 t7) (v7 := .string t8) (v8 := .int .i64 t9) (v9 := .int .i64 t10) (v10 := .int .i64 t11) (v11 := .bool t12) (v12 := .string t13) BK3.out
      have hbel7 := below13 (v0 := .int .i64 t1) (v1 := .int .i64 t2) (v2 := .int .i64 t3) (v3 := .string t4) (v4 := .string t5) (v5 := .string t6) (v6 := .int .i64 t7) (v7 := .string t8) (v8 := .int .i64 t9) (v9 := .int .i64 t10) (v10 := .int .i64 t11) (v11 := .bool t12) (v12 := .string t13) HB.out GE3.out
      have hbr7 := (HR6.out.below HA3.out).move (far13 (g := g3) (v0 := .int .i64 t1) (v1 := .int .i64 t2) (v2 := .int .i64 t3) (v3 := .string t4) (v4 := .string t5) (v5 := .string t6) (v6 := .int .i64 t7) (v7 := .string t8) (v8 := .int .i64 t9) (v9 := .int .i64 t10) (v10 := .int .i64 t11) (v11 := .bool t12) (v12 := .string t13) (by have z1 := HR6.out.lt; have z2 := HG3.out; omega))
      generalize (((((((((((((wb3.setCell ⟨g3, 0, none⟩ (.int .i64 t1)).setCell ⟨g3, 1, none⟩ (.int .i64 t2)).setCell ⟨g3, 2, none⟩ (.int .i64 t3)).setCell ⟨g3, 3, none⟩ (.string t4)).setCell ⟨g3, 4, none⟩ (.string t5)).setCell ⟨g3, 5, none⟩ (.string t6)).setCell ⟨g3, 6, none⟩ (.int .i64 t7)).setCell ⟨g3, 7, none⟩ (.string t8)).setCell ⟨g3, 8, none⟩ (.int .i64 t9)).setCell ⟨g3, 9, none⟩ (.int .i64 t10)).setCell ⟨g3, 10, none⟩ (.int .i64 t11)).setCell ⟨g3, 11, none⟩ (.bool t12)).setCell ⟨g3, 12, none⟩ (.string t13)) = W7 at hrow7 hbel7 hbr7 ⊢
      have BK := Aside0.mk hrow7
      have n0_ := Aside0.mk hbel7
      have hback7 := hbr7.own_back (P := Tryd.prog) 44 Tryd.underlying44 Tryd.underlying5 9 Tryd.underlying9
      rw [HL.out] at hback7
      clear HB hrow7 hbel7 hbr7 HR6 BK3 HA3 HG3 GE3 c4_0 z4_0 c4_1 z4_1 c4_2 z4_2 c4_3 z4_3 c4_4 z4_4 c4_5 z4_5 c4_6 z4_6 c4_7 z4_7 c4_8 z4_8 c4_9 z4_9 c4_10 z4_10 c4_11 z4_11 c4_12 z4_12
      have HB := n0_
      clear n0_
      go_wp2_with fail
      refine (ticket_Acked.calls k _ n g _ ⟨TabW.now HT.out HB.out⟩ A1.out).mono ?_
      rintro e W8 ⟨rfl, hb⟩
      have n0_ := Aside0.mk (bT_ HB.out hb)
      have n1_ := Aside0.mk (kB_ BK.out hb)
      clear HB BK hb hback7
      have HB := n0_
      have BK := n1_
      clear n0_ n1_
      by_cases ha2 : a2 = 0
      case' pos =>
        have d2 : (a2 != 0) = false := bne_eq_false_iff_eq.mpr ha2
        clear ha2 BK
        go_upto_region 18 with fail
      case' neg =>
        have d2 : (a2 != 0) = true := bne_iff_ne.mpr ha2
        obtain ⟨hz, rfl⟩ := NE.out ha2
        simp only [Tkt.zT, Prod.mk.injEq] at hz
        obtain ⟨rfl, rfl, rfl, rfl, rfl, rfl, rfl, rfl, rfl, rfl, rfl, rfl, rfl, rfl⟩ := hz
        clear ha2
        obtain ⟨x0_, x1_, x2_, x3_, x4_, x5_, x6_, x7_, x8_, x9_, x10_, x11_, x12_⟩ := cell13 BK.out
        go_upto_region 18 with fail
      all_goals clear d2
      all_goals
        go_wp2_with fail
        refine (gongbook_Below.calls a1 (s.size : Int) m _ B2.out).mono ?_
        rintro e W9 ⟨rfl, ⟨nd9, rfl⟩⟩
        have n0_ := Aside0.mk (bN_ HB.out nd9)
        clear HB
        have HB := n0_
        clear n0_
        generalize W8.drewN nd9 = W9 at HB ⊢
        have m0 : (m : Int) ≤ (s.size : Int) := by have := HM.out; omega
        have m1 : m ≤ s.size := HM.out
        have m2 : (0 : Int) ≤ (m : Int) := by omega
        have m3 : s.size + 1 ≤ 9223372036854775807 := by omega
        have m4 : (9223372036854775807 < s.size + 1) = False := eq_false (by omega)
        go_wp2_with (first | ((with_reducible refine gD_ (N := 102) rfl ?_); refine Kd.R_lit Kd.string _ 9 ?hg (N := 102) ?hd (xs := ([s.extract 0 m, s ++ (⟨#[120]⟩ : ByteArray)] : List ByteArray)) (inner := [.string (s.extract 0 m), .string (s ++ (⟨#[120]⟩ : ByteArray))]) (ok := fun _ => True) (okp := fun _ => True) ?hr ?hp (fun _ hk => hk) trivial (Below.refl _ _) (Nat.le_refl _) (by simp) ?_; (case hd => rfl); (case hg => rfl); (case hr => first | (go_simp; done) | (go_simp; rfl)); (case hp => exact (Reps.one (show Kd.M Kd.string _ _ _ (s.extract 0 m) [.string (s.extract 0 m)] from rfl) (Reps.one (show Kd.M Kd.string _ _ _ (s ++ (⟨#[120]⟩ : ByteArray)) [.string (s ++ (⟨#[120]⟩ : ByteArray))] from rfl) (Reps.none _ _)))); intro vL wL ho hb hg_ hnew_; clear hg_ hnew_; obtain ⟨AL, cL, eL⟩ := Kd.R_slice ho; subst eL; have CL := Aside0.mk (Kd.R_reads' ho).2.2; have n0_ := Aside0.mk (bT_ HB.out hb); clear HB hb ho; have HB := n0_; clear n0_))
      all_goals
        obtain ⟨ad, hAd, q0⟩ := Kd.at_string CL.out 0 (by decide) (by simp)
        obtain ⟨ad', hAd', q1⟩ := Kd.at_string CL.out 1 (by decide) (by simp)
        obtain rfl : ad' = ad := Option.some.inj (hAd'.symm.trans hAd)
        subst hAd
        have q0 : wL.cell? (ad'.add 0) = some (.string (s.extract 0 m)) := q0
        have q1 : wL.cell? (ad'.add 1) = some (.string (s ++ (⟨#[120]⟩ : ByteArray))) := q1
        clear CL hAd'
        generalize s.extract 0 m = Y1 at q0 O1 D2 ⊢
        generalize s ++ (⟨#[120]⟩ : ByteArray) = Y2 at q1 O2 D3 ⊢
        have Q0 := Aside0.mk q0
        have Q1 := Aside0.mk q1
        have HL := Aside0.mk (World.block_lt_of_cell? wL _ q0)
        clear q0 q1
        go_loopw [104, 17, 18, 19, 20, 21] (fun i _ _ _ _ _ wr => ∃ j : Nat, j ≤ 2 ∧ i = .int .i64 j ∧ Aside0 (wr.cell? (ad'.add 0) = some (.string Y1)) ∧ Aside0 (wr.cell? (ad'.add 1) = some (.string Y2)) ∧ Aside0 (Below w.heap.size w wr) ∧ Aside0 (ad'.block < wr.heap.size)) (fun i _ _ _ _ _ _ => 2 - (intOf i).toNat)
        case atStart => exact ⟨0, by omega, rfl, Q0, Q1, HB, HL⟩
        case round =>
          clear Q0 Q1 HB HL
          obtain ⟨j, hj, rfl, Q0, Q1, HB, HL⟩ := hrel
          have HC := Aside0.mk (Below.refl wr.heap.size wr)
          rcases (by omega : j = 0 ∨ j = 1 ∨ j = 2) with rfl | rfl | rfl
          · have hc : wr.cell? ad' = some (.string Y1) := Q0.out
            have i1 : (0 : Int) < 2 := by decide
            by_cases h14 : y14 = 230
            · have d1 : (y14 != 230) = false := bne_eq_false_iff_eq.mpr h14
              go_wp2_with (first | (go_at_call 22; (with_reducible refine (crc_Open.calls Y1 o1 k1 _ ⟨TabW.now HT.out (by repeat (first | (with_reducible first | exact HB.out | apply bA_ | apply bN_ | apply bD_) | exact HB.out))⟩ O1.out).mono ?_); rintro e V1 ⟨rfl, hb⟩; have n0_ := Aside0.mk (bT_ (by repeat (first | (with_reducible first | exact HB.out | apply bA_ | apply bN_ | apply bD_) | exact HB.out)) hb); have n1_ := Aside0.mk (bT_ (by repeat (first | (with_reducible first | exact HC.out | apply bA_ | apply bN_ | apply bD_) | exact HC.out)) hb); clear HB HC; have HB := n0_; have HC := n1_; clear n0_ n1_ hb) | (go_at_call 17; (with_reducible refine (ticket_Decode.calls k Y1 y1 y2 y3 y4 y5 y6 y7 y8 y9 y10 y11 y12 y13 y14 _ ⟨TabW.now HT.out (by repeat (first | (with_reducible first | exact HB.out | apply bA_ | apply bN_ | apply bD_) | exact HB.out))⟩ D2.out).mono ?_); rintro e V2 ⟨rfl, hb⟩; have n0_ := Aside0.mk (bT_ (by repeat (first | (with_reducible first | exact HB.out | apply bA_ | apply bN_ | apply bD_) | exact HB.out)) hb); have n1_ := Aside0.mk (bT_ (by repeat (first | (with_reducible first | exact HC.out | apply bA_ | apply bN_ | apply bD_) | exact HC.out)) hb); clear HB HC; have HB := n0_; have HC := n1_; clear n0_ n1_ hb) | ((with_reducible refine gD_ (N := 20) rfl ?_); refine gB_ ?hg (N := 20) ?hd (cs := #[.int .i64 0, .int .i64 0, .int .i64 0, .string (⟨#[]⟩ : ByteArray), .string (⟨#[]⟩ : ByteArray), .string (⟨#[]⟩ : ByteArray), .int .i64 0, .string (⟨#[]⟩ : ByteArray), .int .i64 0, .int .i64 0, .int .i64 0, .bool false, .string (⟨#[]⟩ : ByteArray)]) (t := 27) ?hr ?_; (case hd => rfl); (case hg => rfl); (case hr => first | (go_simp; done) | (go_simp; rfl)); intro g4 hg wb4 hbox hb; have GE4 := Aside0.mk ((by rw [hg]; exact (bZ_ (by repeat (first | (with_reducible first | exact HB.out | apply bA_ | apply bN_ | apply bD_) | exact HB.out)))) : w.heap.size ≤ g4); have n0_ := Aside0.mk (bT_ (by repeat (first | (with_reducible first | exact HB.out | apply bA_ | apply bN_ | apply bD_) | exact HB.out)) hb); have BK4 := Aside0.mk hbox; have HA4 := Aside0.mk hb; have HG4 := Aside0.mk hg; have HX4 := Aside0.mk (bZ_ (by repeat (first | (with_reducible first | exact HC.out | apply bA_ | apply bN_ | apply bD_) | exact HC.out))); have n1_ := Aside0.mk (bT_ (by repeat (first | (with_reducible first | exact HC.out | apply bA_ | apply bN_ | apply bD_) | exact HC.out)) hb); clear HB HC; have HB := n0_; have HC := n1_; clear n0_ n1_ hb hbox hg; obtain ⟨c5_0, c5_1, c5_2, c5_3, c5_4, c5_5, c5_6, c5_7, c5_8, c5_9, c5_10, c5_11, c5_12⟩ := cell13 BK4.out; obtain ⟨z5_0, z5_1, z5_2, z5_3, z5_4, z5_5, z5_6, z5_7, z5_8, z5_9, z5_10, z5_11, z5_12⟩ := froz13 BK4.out))
              have hne4 : ad'.block ≠ g4 := (by have z1 := HL.out; have z2 := HG4.out; have z3 := HX4.out; omega)
              have e0 := (cell_same (p := ad'.add 0) (far13 (w := wb4) (g := g4) (j := ad'.block) hne4 (v0 := .int .i64 y1) (v1 := .int .i64 y2) (v2 := .int .i64 y3) (v3 := .string y4) (v4 := .string y5) (v5 := .string y6) (v6 := .int .i64 y7) (v7 := .string y8) (v8 := .int .i64 y9) (v9 := .int .i64 y10) (v10 := .int .i64 y11) (v11 := .bool y12) (v12 := .string y13))).trans ((HC.out.cell (p := ad'.add 0) HL.out).trans Q0.out)
              have e1 := (cell_same (p := ad'.add 1) (far13 (w := wb4) (g := g4) (j := ad'.block) hne4 (v0 := .int .i64 y1) (v1 := .int .i64 y2) (v2 := .int .i64 y3) (v3 := .string y4) (v4 := .string y5) (v5 := .string y6) (v6 := .int .i64 y7) (v7 := .string y8) (v8 := .int .i64 y9) (v9 := .int .i64 y10) (v10 := .int .i64 y11) (v11 := .bool y12) (v12 := .string y13))).trans ((HC.out.cell (p := ad'.add 1) HL.out).trans Q1.out)
              exact ⟨⟨1, by omega, rfl, ⟨e0⟩, ⟨e1⟩, ⟨below13 HB.out GE4.out⟩, ⟨World.block_lt_of_cell? _ _ e0⟩⟩, by simp [intOf]⟩
            · have d1 : (y14 != 230) = true := bne_iff_ne.mpr h14
              have hk := C1.out h14
              subst hk
              go_wp2_with (first | (go_at_call 22; (with_reducible refine (crc_Open.calls Y1 o1 true _ ⟨TabW.now HT.out (by repeat (first | (with_reducible first | exact HB.out | apply bA_ | apply bN_ | apply bD_) | exact HB.out))⟩ O1.out).mono ?_); rintro e V1 ⟨rfl, hb⟩; have n0_ := Aside0.mk (bT_ (by repeat (first | (with_reducible first | exact HB.out | apply bA_ | apply bN_ | apply bD_) | exact HB.out)) hb); have n1_ := Aside0.mk (bT_ (by repeat (first | (with_reducible first | exact HC.out | apply bA_ | apply bN_ | apply bD_) | exact HC.out)) hb); clear HB HC; have HB := n0_; have HC := n1_; clear n0_ n1_ hb) | (go_at_call 17; (with_reducible refine (ticket_Decode.calls k Y1 y1 y2 y3 y4 y5 y6 y7 y8 y9 y10 y11 y12 y13 y14 _ ⟨TabW.now HT.out (by repeat (first | (with_reducible first | exact HB.out | apply bA_ | apply bN_ | apply bD_) | exact HB.out))⟩ D2.out).mono ?_); rintro e V2 ⟨rfl, hb⟩; have n0_ := Aside0.mk (bT_ (by repeat (first | (with_reducible first | exact HB.out | apply bA_ | apply bN_ | apply bD_) | exact HB.out)) hb); have n1_ := Aside0.mk (bT_ (by repeat (first | (with_reducible first | exact HC.out | apply bA_ | apply bN_ | apply bD_) | exact HC.out)) hb); clear HB HC; have HB := n0_; have HC := n1_; clear n0_ n1_ hb) | ((with_reducible refine gD_ (N := 20) rfl ?_); refine gB_ ?hg (N := 20) ?hd (cs := #[.int .i64 0, .int .i64 0, .int .i64 0, .string (⟨#[]⟩ : ByteArray), .string (⟨#[]⟩ : ByteArray), .string (⟨#[]⟩ : ByteArray), .int .i64 0, .string (⟨#[]⟩ : ByteArray), .int .i64 0, .int .i64 0, .int .i64 0, .bool false, .string (⟨#[]⟩ : ByteArray)]) (t := 27) ?hr ?_; (case hd => rfl); (case hg => rfl); (case hr => first | (go_simp; done) | (go_simp; rfl)); intro g4 hg wb4 hbox hb; have GE4 := Aside0.mk ((by rw [hg]; exact (bZ_ (by repeat (first | (with_reducible first | exact HB.out | apply bA_ | apply bN_ | apply bD_) | exact HB.out)))) : w.heap.size ≤ g4); have n0_ := Aside0.mk (bT_ (by repeat (first | (with_reducible first | exact HB.out | apply bA_ | apply bN_ | apply bD_) | exact HB.out)) hb); have BK4 := Aside0.mk hbox; have HA4 := Aside0.mk hb; have HG4 := Aside0.mk hg; have HX4 := Aside0.mk (bZ_ (by repeat (first | (with_reducible first | exact HC.out | apply bA_ | apply bN_ | apply bD_) | exact HC.out))); have n1_ := Aside0.mk (bT_ (by repeat (first | (with_reducible first | exact HC.out | apply bA_ | apply bN_ | apply bD_) | exact HC.out)) hb); clear HB HC; have HB := n0_; have HC := n1_; clear n0_ n1_ hb hbox hg; obtain ⟨c5_0, c5_1, c5_2, c5_3, c5_4, c5_5, c5_6, c5_7, c5_8, c5_9, c5_10, c5_11, c5_12⟩ := cell13 BK4.out; obtain ⟨z5_0, z5_1, z5_2, z5_3, z5_4, z5_5, z5_6, z5_7, z5_8, z5_9, z5_10, z5_11, z5_12⟩ := froz13 BK4.out))
              have hne4 : ad'.block ≠ g4 := (by have z1 := HL.out; have z2 := HG4.out; have z3 := HX4.out; omega)
              have e0 := (cell_same (p := ad'.add 0) (far13 (w := wb4) (g := g4) (j := ad'.block) hne4 (v0 := .int .i64 y1) (v1 := .int .i64 y2) (v2 := .int .i64 y3) (v3 := .string y4) (v4 := .string y5) (v5 := .string y6) (v6 := .int .i64 y7) (v7 := .string y8) (v8 := .int .i64 y9) (v9 := .int .i64 y10) (v10 := .int .i64 y11) (v11 := .bool y12) (v12 := .string y13))).trans ((HC.out.cell (p := ad'.add 0) HL.out).trans Q0.out)
              have e1 := (cell_same (p := ad'.add 1) (far13 (w := wb4) (g := g4) (j := ad'.block) hne4 (v0 := .int .i64 y1) (v1 := .int .i64 y2) (v2 := .int .i64 y3) (v3 := .string y4) (v4 := .string y5) (v5 := .string y6) (v6 := .int .i64 y7) (v7 := .string y8) (v8 := .int .i64 y9) (v9 := .int .i64 y10) (v10 := .int .i64 y11) (v11 := .bool y12) (v12 := .string y13))).trans ((HC.out.cell (p := ad'.add 1) HL.out).trans Q1.out)
              exact ⟨⟨1, by omega, rfl, ⟨e0⟩, ⟨e1⟩, ⟨below13 HB.out GE4.out⟩, ⟨World.block_lt_of_cell? _ _ e0⟩⟩, by simp [intOf]⟩
          · have hc : wr.cell? ⟨ad'.block, ad'.off + 1, none⟩ = some (.string Y2) := Q1.out
            have i1 : (1 : Int) < 2 := by decide
            by_cases h14 : z14 = 230
            · have d1 : (z14 != 230) = false := bne_eq_false_iff_eq.mpr h14
              go_wp2_with (first | (go_at_call 22; (with_reducible refine (crc_Open.calls Y2 o2 k2 _ ⟨TabW.now HT.out (by repeat (first | (with_reducible first | exact HB.out | apply bA_ | apply bN_ | apply bD_) | exact HB.out))⟩ O2.out).mono ?_); rintro e V1 ⟨rfl, hb⟩; have n0_ := Aside0.mk (bT_ (by repeat (first | (with_reducible first | exact HB.out | apply bA_ | apply bN_ | apply bD_) | exact HB.out)) hb); have n1_ := Aside0.mk (bT_ (by repeat (first | (with_reducible first | exact HC.out | apply bA_ | apply bN_ | apply bD_) | exact HC.out)) hb); clear HB HC; have HB := n0_; have HC := n1_; clear n0_ n1_ hb) | (go_at_call 17; (with_reducible refine (ticket_Decode.calls k Y2 z1 z2 z3 z4 z5 z6 z7 z8 z9 z10 z11 z12 z13 z14 _ ⟨TabW.now HT.out (by repeat (first | (with_reducible first | exact HB.out | apply bA_ | apply bN_ | apply bD_) | exact HB.out))⟩ D3.out).mono ?_); rintro e V2 ⟨rfl, hb⟩; have n0_ := Aside0.mk (bT_ (by repeat (first | (with_reducible first | exact HB.out | apply bA_ | apply bN_ | apply bD_) | exact HB.out)) hb); have n1_ := Aside0.mk (bT_ (by repeat (first | (with_reducible first | exact HC.out | apply bA_ | apply bN_ | apply bD_) | exact HC.out)) hb); clear HB HC; have HB := n0_; have HC := n1_; clear n0_ n1_ hb) | ((with_reducible refine gD_ (N := 20) rfl ?_); refine gB_ ?hg (N := 20) ?hd (cs := #[.int .i64 0, .int .i64 0, .int .i64 0, .string (⟨#[]⟩ : ByteArray), .string (⟨#[]⟩ : ByteArray), .string (⟨#[]⟩ : ByteArray), .int .i64 0, .string (⟨#[]⟩ : ByteArray), .int .i64 0, .int .i64 0, .int .i64 0, .bool false, .string (⟨#[]⟩ : ByteArray)]) (t := 27) ?hr ?_; (case hd => rfl); (case hg => rfl); (case hr => first | (go_simp; done) | (go_simp; rfl)); intro g4 hg wb4 hbox hb; have GE4 := Aside0.mk ((by rw [hg]; exact (bZ_ (by repeat (first | (with_reducible first | exact HB.out | apply bA_ | apply bN_ | apply bD_) | exact HB.out)))) : w.heap.size ≤ g4); have n0_ := Aside0.mk (bT_ (by repeat (first | (with_reducible first | exact HB.out | apply bA_ | apply bN_ | apply bD_) | exact HB.out)) hb); have BK4 := Aside0.mk hbox; have HA4 := Aside0.mk hb; have HG4 := Aside0.mk hg; have HX4 := Aside0.mk (bZ_ (by repeat (first | (with_reducible first | exact HC.out | apply bA_ | apply bN_ | apply bD_) | exact HC.out))); have n1_ := Aside0.mk (bT_ (by repeat (first | (with_reducible first | exact HC.out | apply bA_ | apply bN_ | apply bD_) | exact HC.out)) hb); clear HB HC; have HB := n0_; have HC := n1_; clear n0_ n1_ hb hbox hg; obtain ⟨c6_0, c6_1, c6_2, c6_3, c6_4, c6_5, c6_6, c6_7, c6_8, c6_9, c6_10, c6_11, c6_12⟩ := cell13 BK4.out; obtain ⟨z6_0, z6_1, z6_2, z6_3, z6_4, z6_5, z6_6, z6_7, z6_8, z6_9, z6_10, z6_11, z6_12⟩ := froz13 BK4.out))
              have hne4 : ad'.block ≠ g4 := (by have z1 := HL.out; have z2 := HG4.out; have z3 := HX4.out; omega)
              have e0 := (cell_same (p := ad'.add 0) (far13 (w := wb4) (g := g4) (j := ad'.block) hne4 (v0 := .int .i64 z1) (v1 := .int .i64 z2) (v2 := .int .i64 z3) (v3 := .string z4) (v4 := .string z5) (v5 := .string z6) (v6 := .int .i64 z7) (v7 := .string z8) (v8 := .int .i64 z9) (v9 := .int .i64 z10) (v10 := .int .i64 z11) (v11 := .bool z12) (v12 := .string z13))).trans ((HC.out.cell (p := ad'.add 0) HL.out).trans Q0.out)
              have e1 := (cell_same (p := ad'.add 1) (far13 (w := wb4) (g := g4) (j := ad'.block) hne4 (v0 := .int .i64 z1) (v1 := .int .i64 z2) (v2 := .int .i64 z3) (v3 := .string z4) (v4 := .string z5) (v5 := .string z6) (v6 := .int .i64 z7) (v7 := .string z8) (v8 := .int .i64 z9) (v9 := .int .i64 z10) (v10 := .int .i64 z11) (v11 := .bool z12) (v12 := .string z13))).trans ((HC.out.cell (p := ad'.add 1) HL.out).trans Q1.out)
              exact ⟨⟨2, by omega, rfl, ⟨e0⟩, ⟨e1⟩, ⟨below13 HB.out GE4.out⟩, ⟨World.block_lt_of_cell? _ _ e0⟩⟩, by simp [intOf]⟩
            · have d1 : (z14 != 230) = true := bne_iff_ne.mpr h14
              have hk := C2.out h14
              subst hk
              go_wp2_with (first | (go_at_call 22; (with_reducible refine (crc_Open.calls Y2 o2 true _ ⟨TabW.now HT.out (by repeat (first | (with_reducible first | exact HB.out | apply bA_ | apply bN_ | apply bD_) | exact HB.out))⟩ O2.out).mono ?_); rintro e V1 ⟨rfl, hb⟩; have n0_ := Aside0.mk (bT_ (by repeat (first | (with_reducible first | exact HB.out | apply bA_ | apply bN_ | apply bD_) | exact HB.out)) hb); have n1_ := Aside0.mk (bT_ (by repeat (first | (with_reducible first | exact HC.out | apply bA_ | apply bN_ | apply bD_) | exact HC.out)) hb); clear HB HC; have HB := n0_; have HC := n1_; clear n0_ n1_ hb) | (go_at_call 17; (with_reducible refine (ticket_Decode.calls k Y2 z1 z2 z3 z4 z5 z6 z7 z8 z9 z10 z11 z12 z13 z14 _ ⟨TabW.now HT.out (by repeat (first | (with_reducible first | exact HB.out | apply bA_ | apply bN_ | apply bD_) | exact HB.out))⟩ D3.out).mono ?_); rintro e V2 ⟨rfl, hb⟩; have n0_ := Aside0.mk (bT_ (by repeat (first | (with_reducible first | exact HB.out | apply bA_ | apply bN_ | apply bD_) | exact HB.out)) hb); have n1_ := Aside0.mk (bT_ (by repeat (first | (with_reducible first | exact HC.out | apply bA_ | apply bN_ | apply bD_) | exact HC.out)) hb); clear HB HC; have HB := n0_; have HC := n1_; clear n0_ n1_ hb) | ((with_reducible refine gD_ (N := 20) rfl ?_); refine gB_ ?hg (N := 20) ?hd (cs := #[.int .i64 0, .int .i64 0, .int .i64 0, .string (⟨#[]⟩ : ByteArray), .string (⟨#[]⟩ : ByteArray), .string (⟨#[]⟩ : ByteArray), .int .i64 0, .string (⟨#[]⟩ : ByteArray), .int .i64 0, .int .i64 0, .int .i64 0, .bool false, .string (⟨#[]⟩ : ByteArray)]) (t := 27) ?hr ?_; (case hd => rfl); (case hg => rfl); (case hr => first | (go_simp; done) | (go_simp; rfl)); intro g4 hg wb4 hbox hb; have GE4 := Aside0.mk ((by rw [hg]; exact (bZ_ (by repeat (first | (with_reducible first | exact HB.out | apply bA_ | apply bN_ | apply bD_) | exact HB.out)))) : w.heap.size ≤ g4); have n0_ := Aside0.mk (bT_ (by repeat (first | (with_reducible first | exact HB.out | apply bA_ | apply bN_ | apply bD_) | exact HB.out)) hb); have BK4 := Aside0.mk hbox; have HA4 := Aside0.mk hb; have HG4 := Aside0.mk hg; have HX4 := Aside0.mk (bZ_ (by repeat (first | (with_reducible first | exact HC.out | apply bA_ | apply bN_ | apply bD_) | exact HC.out))); have n1_ := Aside0.mk (bT_ (by repeat (first | (with_reducible first | exact HC.out | apply bA_ | apply bN_ | apply bD_) | exact HC.out)) hb); clear HB HC; have HB := n0_; have HC := n1_; clear n0_ n1_ hb hbox hg; obtain ⟨c6_0, c6_1, c6_2, c6_3, c6_4, c6_5, c6_6, c6_7, c6_8, c6_9, c6_10, c6_11, c6_12⟩ := cell13 BK4.out; obtain ⟨z6_0, z6_1, z6_2, z6_3, z6_4, z6_5, z6_6, z6_7, z6_8, z6_9, z6_10, z6_11, z6_12⟩ := froz13 BK4.out))
              have hne4 : ad'.block ≠ g4 := (by have z1 := HL.out; have z2 := HG4.out; have z3 := HX4.out; omega)
              have e0 := (cell_same (p := ad'.add 0) (far13 (w := wb4) (g := g4) (j := ad'.block) hne4 (v0 := .int .i64 z1) (v1 := .int .i64 z2) (v2 := .int .i64 z3) (v3 := .string z4) (v4 := .string z5) (v5 := .string z6) (v6 := .int .i64 z7) (v7 := .string z8) (v8 := .int .i64 z9) (v9 := .int .i64 z10) (v10 := .int .i64 z11) (v11 := .bool z12) (v12 := .string z13))).trans ((HC.out.cell (p := ad'.add 0) HL.out).trans Q0.out)
              have e1 := (cell_same (p := ad'.add 1) (far13 (w := wb4) (g := g4) (j := ad'.block) hne4 (v0 := .int .i64 z1) (v1 := .int .i64 z2) (v2 := .int .i64 z3) (v3 := .string z4) (v4 := .string z5) (v5 := .string z6) (v6 := .int .i64 z7) (v7 := .string z8) (v8 := .int .i64 z9) (v9 := .int .i64 z10) (v10 := .int .i64 z11) (v11 := .bool z12) (v12 := .string z13))).trans ((HC.out.cell (p := ad'.add 1) HL.out).trans Q1.out)
              exact ⟨⟨2, by omega, rfl, ⟨e0⟩, ⟨e1⟩, ⟨below13 HB.out GE4.out⟩, ⟨World.block_lt_of_cell? _ _ e0⟩⟩, by simp [intOf]⟩
          · go_wp2_with fail
            go_ret
            exact ⟨rfl, by repeat (first | (with_reducible first | exact HB.out | apply bA_ | apply bN_ | apply bD_) | exact HB.out)⟩
end Go.Proofs.YtipenplplmdclaaDoor.Px
end
section
namespace Go.Proofs.YtipenplplmdclaaDoor.Open
open Go Go.RowKit Go.Proofs.YtipenplplmdclaaDoorW.PrintWords
def Opens (R : Nat) {α : Type} (d : Kd α) (P : Program) (t : TypeId) (WF : α → Prop) : Prop :=
  P.cellsOf t = d.sz ∧ ∀ (H : Type) (enc : TypeId × Value → H) (W : World) (base : Nat) (sp : Nat → Bool) (held : Bool) (fuel : Nat) (cs : List Value) (y : DataW H) (p : List MemPlace),
    DataW.trod enc P W base sp held fuel t cs = some (y, p) → (∀ n ∈ y.weights P t, n ≤ R) → ∃ x, d.K W x cs ∧ WF x
theorem int {R : Nat} {P : Program} {t : TypeId} {k : IntKind} (h : P.underlying t = some (.int k)) (hc : P.cellsOf t = 1) : Opens R (Kd.int k) P t (fun n => (Lit.int k n).wf = true) := by
  refine ⟨hc, fun H enc W base sp held fuel cs y p ht _ => ?_⟩
  obtain ⟨n, rfl, _, hw⟩ := DataW.trod_int h ht
  exact ⟨n, rfl, hw⟩
theorem bool {R : Nat} {P : Program} {t : TypeId} (h : P.underlying t = some .bool) (hc : P.cellsOf t = 1) : Opens R Kd.bool P t (fun _ => True) := by
  refine ⟨hc, fun H enc W base sp held fuel cs y p ht _ => ?_⟩
  cases fuel with
  | zero => simp [DataW.trod] at ht
  | succ fuel =>
    simp only [DataW.trod, h] at ht
    split at ht <;> first | (rename_i h1 h2; cases h1) | skip
    all_goals first | (cases ht; done) | skip
    all_goals simp_all
    · exact .inl rfl
    · exact .inr rfl
theorem string {R : Nat} {P : Program} {t : TypeId} (h : P.underlying t = some .string) (hc : P.cellsOf t = 1) : Opens R Kd.string P t (fun s => s.size ≤ R) := by
  refine ⟨hc, fun H enc W base sp held fuel cs y p ht hw => ?_⟩
  obtain ⟨s, rfl, he, hs⟩ := DataW.trod_string h ht
  obtain ⟨rfl, rfl⟩ := Prod.mk.inj he
  refine ⟨s, rfl, ?_⟩
  have := hw s.data.toList.length (by simp [DataW.weights])
  simpa using this
theorem choose_list {α : Type} {Q : Nat → α → Prop} : ∀ n, (∀ i, i < n → ∃ x, Q i x) → ∃ l : List α, l.length = n ∧ ∀ i x, l[i]? = some x → Q i x
  | 0, _ => ⟨[], rfl, fun i x h => by simp at h⟩
  | n + 1, h => by
    obtain ⟨l, hl, hq⟩ := choose_list n (fun i hi => h i (by omega))
    obtain ⟨x, hx⟩ := h n (by omega)
    refine ⟨l ++ [x], by simp [hl], fun i y hy => ?_⟩
    rcases Nat.lt_trichotomy i n with hlt | rfl | hgt
    · rw [List.getElem?_append_left (by omega)] at hy
      exact hq i y hy
    · rw [List.getElem?_append_right (by omega), hl] at hy
      simp at hy
      subst hy
      exact hx
    · rw [List.getElem?_append_right (by omega)] at hy
      rw [List.getElem?_eq_none (by simp; omega)] at hy
      cases hy
theorem weights_all {H : Type} {P : Program} {e : TypeId} : ∀ {l : List (DataW H)} {i : Nat} {d : DataW H}, l[i]? = some d → ∀ n ∈ d.weights P e, n ∈ DataW.weightsAll P e l
  | x :: l, 0, d, h, n, hn => by
    simp only [List.getElem?_cons_zero, Option.some.injEq] at h
    subst h
    simp only [DataW.weightsAll, List.mem_append]
    exact .inl hn
  | x :: l, i + 1, d, h, n, hn => by
    simp only [List.getElem?_cons_succ] at h
    simp only [DataW.weightsAll, List.mem_append]
    exact .inr (weights_all h n hn)
  | [], _, _, h, _, _ => by simp at h
theorem cells_at {w : World} {base : Nat} {a : Addr} {n : Nat} {cs : List Value} (h : w.cells? base a n = some cs) : cs.length = n ∧ ∀ j u, cs[j]? = some u → w.cell? (a.add j) = some u := by
  unfold World.cells? at h
  split at h
  · have hl := Lib.mapM_length h
    simp at hl
    refine ⟨hl, fun j u hu => ?_⟩
    have hj : j < n := by
      rcases Nat.lt_or_ge j n with h' | h'
      · exact h'
      · rw [List.getElem?_eq_none (by omega)] at hu
        cases hu
    obtain ⟨b, hb, hf⟩ := Lib.mapM_at h j j (by simp [hj])
    rw [hu] at hb
    injection hb with hb
    subst hb
    exact hf
  · cases h
theorem slice_elems {R : Nat} {α : Type} {d : Kd α} {P : Program} {t e : TypeId} {WF : α → Prop} (ht : P.underlying t = some (.slice e)) (hd : Opens R d P e WF)
    {H : Type} {enc : TypeId × Value → H} {W : World} {base : Nat} {sp : Nat → Bool} {held : Bool} {fuel : Nat} {A : Option Addr} {len cap : Nat} {y : DataW H} {p : List MemPlace}
    (h : DataW.trod enc P W base sp held fuel t [.slice A len cap] = some (y, p)) (hw : ∀ n ∈ y.weights P t, n ≤ R) :
    ∃ l : List α, l.length = len ∧ Kd.C d W A len l ∧ len ≤ cap ∧ (∀ x ∈ l, WF x) ∧ len * P.bytesOf e ≤ R := by
  cases fuel with
  | zero => simp [DataW.trod] at h
  | succ fuel =>
    cases A with
    | none =>
      have h' := h
      simp only [DataW.trod, ht] at h'
      split at h' <;> simp_all
      exact Kd.C_nil d W
    | some a =>
      simp only [DataW.trod, ht] at h
      split at h
      · rename_i hb
        obtain ⟨elems, hm, h⟩ := Option.bind_eq_some_iff.1 h
        obtain ⟨rest, hr, h⟩ := Option.map_eq_some_iff.1 h
        simp only [Prod.mk.injEq] at h
        obtain ⟨rfl, rfl⟩ := h
        have hel : elems.length = len := by simpa using Lib.mapM_length hm
        simp only [DataW.weights, ht, List.mem_cons, List.mem_append] at hw
        have hsz := hw _ (.inl rfl)
        simp only [List.length_map, hel] at hsz
        have hex : ∀ i, i < len → ∃ x, (∃ c, c.length = d.sz ∧ d.K W x c ∧ ∀ j u, c[j]? = some u → W.cell? (a.add (i * d.sz + j)) = some u) ∧ WF x := by
          intro i hi
          obtain ⟨b, hb', hf⟩ := Lib.mapM_at hm i i (by simp [hi])
          obtain ⟨c, hc, hf⟩ := Option.bind_eq_some_iff.1 hf
          obtain ⟨hcl, hcell⟩ := cells_at hc
          obtain ⟨yb, pb⟩ := b
          obtain ⟨x, hx, hwf⟩ := hd.2 H enc W base sp held fuel c yb pb hf (fun n hn => hw n (.inr (.inl (weights_all (i := i) (d := yb) (by simp [hb']) n hn))))
          rw [hd.1] at hcell hcl
          exact ⟨x, ⟨c, hcl, hx, fun j u hu => by rw [← hcell j u hu, Addr.add_add]⟩, hwf⟩
        obtain ⟨l, hl, hq⟩ := choose_list len hex
        refine ⟨l, hl, ⟨hl, by have := hb.2; unfold maxLen at this; omega, fun _ => ⟨a, rfl, fun j x hx => (hq j x hx).1⟩⟩, hb.2.1, fun x hx => ?_, ?_⟩
        · obtain ⟨i, hi⟩ := List.mem_iff_getElem?.1 hx
          exact (hq i x hi).2
        · have h1 : len * P.bytesOf e ≤ (len + rest.length) * P.bytesOf e := Nat.mul_le_mul_right _ (by omega)
          omega
      · cases h
theorem slice {R : Nat} {α : Type} {d : Kd α} {P : Program} {t e : TypeId} {WF : α → Prop} (ht : P.underlying t = some (.slice e)) (hd : Opens R d P e WF) (hc : P.cellsOf t = 1) :
    Opens R (Kd.slice e d) P t (fun l => (∀ x ∈ l, WF x) ∧ l.length * P.bytesOf e ≤ R) := by
  refine ⟨hc, fun H enc W base sp held fuel cs y p h hw => ?_⟩
  have hform : ∃ A len cap, cs = [.slice A len cap] := by
    cases fuel with
    | zero => simp [DataW.trod] at h
    | succ fuel =>
      have h' := h
      simp only [DataW.trod, ht] at h'
      split at h' <;> first | exact ⟨_, _, _, rfl⟩ | (simp_all; done) | skip
      all_goals (simp_all)
  obtain ⟨A, len, cap, rfl⟩ := hform
  obtain ⟨l, hl, hC, hcap, hwf, hb⟩ := slice_elems ht hd h hw
  subst hl
  exact ⟨l, ⟨A, cap, rfl, hcap, hC⟩, hwf, hb⟩
def Fields (R : Nat) {α : Type} (d : Kd α) (P : Program) (fs : List Field) (o : Nat) (WF : α → Prop) : Prop :=
  ∀ (H : Type) (enc : TypeId × Value → H) (W : World) (base : Nat) (sp : Nat → Bool) (held : Bool) (fuel : Nat) (cs : List Value) (xs : List (DataW H × List MemPlace)), cs.length = o + d.sz →
    (fs.mapM fun f => DataW.trod enc P W base sp held fuel f.type ((cs.drop f.offset).take (P.cellsOf f.type))) = some xs → (∀ n ∈ DataW.weightsEach P (fs.map (·.type)) (xs.map (·.1)), n ≤ R) → ∃ x, d.K W x (cs.drop o) ∧ WF x
theorem field_last {R : Nat} {α : Type} {d : Kd α} {P : Program} {f : Field} {o : Nat} {WF : α → Prop} (ho : f.offset = o) (hd : Opens R d P f.type WF) : Fields R d P [f] o WF := by
  intro H enc W base sp held fuel cs xs hl hm hw
  simp only [List.mapM_cons, List.mapM_nil, Option.bind_eq_bind, Option.bind_eq_some_iff, Option.pure_def, Option.some.injEq] at hm
  obtain ⟨⟨y, p⟩, hy, _, rfl, rfl⟩ := hm
  rw [ho, hd.1, List.take_of_length_le (by simp; omega)] at hy
  exact hd.2 H enc W base sp held fuel _ y p hy (fun n hn => hw n (by simp [DataW.weightsEach, hn]))
theorem field_more {R : Nat} {α β : Type} {d0 : Kd α} {d1 : Kd β} {P : Program} {f : Field} {fs : List Field} {o : Nat} {WF0 : α → Prop} {WF1 : β → Prop} (ho : f.offset = o) (h0 : Opens R d0 P f.type WF0) (h1 : Fields R d1 P fs (o + d0.sz) WF1) :
    Fields R (Kd.pair d0 d1) P (f :: fs) o (fun x => WF0 x.1 ∧ WF1 x.2) := by
  intro H enc W base sp held fuel cs xs hl hm hw
  simp only [List.mapM_cons, Option.bind_eq_bind, Option.bind_eq_some_iff, Option.pure_def, Option.some.injEq] at hm
  obtain ⟨⟨y, p⟩, hy, ys, hys, rfl⟩ := hm
  have hl' : cs.length = (o + d0.sz) + d1.sz := by rw [hl]; show o + (d0.sz + d1.sz) = _; omega
  rw [ho, h0.1] at hy
  obtain ⟨x0, hx0, hw0⟩ := h0.2 H enc W base sp held fuel _ y p hy (fun n hn => hw n (by simp [DataW.weightsEach, hn]))
  obtain ⟨x1, hx1, hw1⟩ := h1 H enc W base sp held fuel cs ys hl' hys (fun n hn => hw n (by simp only [List.map_cons, DataW.weightsEach, List.mem_append]; exact .inr hn))
  refine ⟨(x0, x1), ⟨(cs.drop o).take d0.sz, cs.drop (o + d0.sz), ?_, hx0, hx1⟩, hw0, hw1⟩
  rw [← List.drop_drop, List.take_append_drop]
theorem struct {R : Nat} {α β : Type} {d : Kd α} {P : Program} {t : TypeId} {fs : Array Field} {WF : α → Prop} (ht : P.underlying t = some (.struct fs)) (hc : P.cellsOf t = d.sz) (hf : Fields R d P fs.toList 0 WF) (f : β → α) (g : α → β) (hg : ∀ y, f (g y) = y) :
    Opens R (Kd.iso d f) P t (fun b => WF (f b)) := by
  refine ⟨hc, fun H enc W base sp held fuel cs y p h hw => ?_⟩
  cases fuel with
  | zero => simp [DataW.trod] at h
  | succ fuel =>
    simp only [DataW.trod, ht] at h
    split at h
    · rename_i hl
      obtain ⟨xs, hm, hx⟩ := Option.map_eq_some_iff.1 h
      simp only [Prod.mk.injEq] at hx
      obtain ⟨rfl, rfl⟩ := hx
      obtain ⟨x, hK, hwf⟩ := hf H enc W base sp held fuel cs xs (by omega) hm (fun n hn => hw n (by simpa [DataW.weights, ht] using hn))
      rw [List.drop_zero] at hK
      exact ⟨g x, by show d.K W (f (g x)) cs; rw [hg]; exact hK, by show WF (f (g x)); rw [hg]; exact hwf⟩
    · cases h
theorem agg_arg {R : Nat} {α : Type} {d : Kd α} {P : Program} {t : TypeId} {WF : α → Prop} (hd : Opens R d P t WF)
    {H : Type} {enc : TypeId × Value → H} {W : World} {base : Nat} {sp : Nat → Bool} {held : Bool} {cs : Array Value} {y : DataW H} {p : List MemPlace} {ts : List TypeId} {ds : List (DataW H)}
    (h : DataW.Trod enc P W base sp held t (.agg cs) y p) (hsz : (DataW.weightsEach P ts ds).all (· ≤ R) = true) {j : Nat} (htj : ts[j]? = some t) (hdj : ds[j]? = some y) :
    ∃ x, d.K W x cs.toList ∧ WF x := by
  obtain ⟨fuel, hf⟩ := h
  have hw : ∀ n ∈ y.weights P t, n ≤ R := fun n hn => by simpa using List.all_eq_true.1 hsz n (DataW.weights_mem_each htj hdj n hn)
  exact hd.2 H enc W base sp held fuel cs.toList y p (by simpa [Value.cells] using hf) hw
end Go.Proofs.YtipenplplmdclaaDoor.Open
end
section
namespace Go.Proofs.YtipenplplmdclaaDoor.Bulk
open Go
theorem one_le {H : Type} (d : DataW H) : 1 ≤ Rows.uptoBulk d := by
  cases d with
  | lit l => cases l <;> simp [Rows.uptoBulk]
  | nil => simp [Rows.uptoBulk]
  | ptr d => simp [Rows.uptoBulk]
  | slice elems spare => simp [Rows.uptoBulk]
  | agg parts => simp [Rows.uptoBulk]
  | iface t d => simp [Rows.uptoBulk]
  | map entries => simp [Rows.uptoBulk]
  | held h => simp [Rows.uptoBulk]
theorem length_le {H : Type} (l : List (DataW H)) : l.length ≤ Rows.uptoBulkAll l := by
  induction l with
  | nil => simp [Rows.uptoBulkAll]
  | cons x r ih => have := one_le x; simp only [Rows.uptoBulkAll, List.length_cons]; omega
theorem entry_two {H : Type} (x : Lit × DataW H) : 2 ≤ Rows.uptoBulkEntry x := by
  obtain ⟨k, d⟩ := x
  have := one_le d
  cases k <;> simp only [Rows.uptoBulkEntry] <;> omega
theorem entries_le {H : Type} (l : List (Lit × DataW H)) : l.length * 2 ≤ Rows.uptoBulkEntries l := by
  induction l with
  | nil => simp [Rows.uptoBulkEntries]
  | cons x r ih => have := entry_two x; simp only [Rows.uptoBulkEntries, List.length_cons]; omega
def fineB (P : Program) (B : Nat) (t : TypeId) : Bool := match P.underlying t with
  | some (.pointer e) => decide (e < P.types.size)
  | some (.slice e) => decide (e < P.types.size ∧ P.bytesOf e ≤ B)
  | some (.map k e) => decide (e < P.types.size ∧ P.bytesOf k ≤ B ∧ P.bytesOf e ≤ B)
  | some (.struct fs) => fs.toList.all fun f => decide (f.type < P.types.size)
  | some (.array _ e) => decide (e < P.types.size)
  | _ => true
mutual
theorem weights_le {H : Type} {P : Program} {B : Nat} (hP : ∀ t, t < P.types.size → fineB P B t = true) (h1 : 1 ≤ B) : ∀ (d : DataW H) (t : TypeId), t < P.types.size → ∀ n ∈ d.weights P t, n ≤ Rows.uptoBulk d * B
  | .lit l, t, ht, n, hn => by
    cases l with
    | string bytes =>
      simp only [DataW.weights, List.mem_singleton] at hn
      subst hn
      simp only [Rows.uptoBulk]
      exact Nat.le_trans (Nat.le_succ _) (Nat.le_mul_of_pos_right _ h1)
    | _ => simp [DataW.weights] at hn
  | .nil, t, ht, n, hn => by simp [DataW.weights] at hn
  | .ptr d, t, ht, n, hn => by
    have hf := hP t ht
    unfold fineB at hf
    simp only [DataW.weights] at hn
    split at hn
    · rename_i e he
      rw [he] at hf
      have := weights_le hP h1 d _ (of_decide_eq_true hf) n hn
      simp only [Rows.uptoBulk]
      exact Nat.le_trans this (Nat.mul_le_mul_right _ (Nat.le_succ _))
    · cases hn
  | .slice elems spare, t, ht, n, hn => by
    have hf := hP t ht
    unfold fineB at hf
    simp only [DataW.weights] at hn
    simp only [Rows.uptoBulk]
    split at hn
    · rename_i e he
      rw [he] at hf
      obtain ⟨f1, f2⟩ := of_decide_eq_true hf
      rw [List.mem_cons, List.mem_append] at hn
      rcases hn with rfl | hn | hn
      · have q1 := length_le elems
        have q2 := length_le spare
        exact Nat.mul_le_mul (by omega) f2
      · exact Nat.le_trans (weightsAll_le hP h1 elems e f1 n hn) (Nat.mul_le_mul_right _ (by omega))
      · exact Nat.le_trans (weightsAll_le hP h1 spare e f1 n hn) (Nat.mul_le_mul_right _ (by omega))
    · cases hn
  | .agg parts, t, ht, n, hn => by
    have hf := hP t ht
    unfold fineB at hf
    simp only [DataW.weights] at hn
    simp only [Rows.uptoBulk]
    split at hn
    · rename_i fs he
      rw [he] at hf
      refine Nat.le_trans (weightsEach_le hP h1 parts _ (fun u hu => ?_) n hn) (Nat.mul_le_mul_right _ (by omega))
      obtain ⟨f, hf1, rfl⟩ := List.mem_map.1 hu
      exact of_decide_eq_true (List.all_eq_true.1 hf f hf1)
    · rename_i m e he
      rw [he] at hf
      exact Nat.le_trans (weightsAll_le hP h1 parts _ (of_decide_eq_true hf) n hn) (Nat.mul_le_mul_right _ (by omega))
    · cases hn
  | .iface _ d, t, ht, n, hn => by simp [DataW.weights] at hn
  | .map entries, t, ht, n, hn => by
    have hf := hP t ht
    unfold fineB at hf
    simp only [DataW.weights] at hn
    simp only [Rows.uptoBulk]
    split at hn
    · rename_i k e he
      rw [he] at hf
      obtain ⟨f1, q2, q3⟩ := of_decide_eq_true hf
      rw [List.mem_cons] at hn
      rcases hn with rfl | hn
      · have q1 := entries_le entries
        refine Nat.le_trans (Nat.mul_le_mul_left _ (show P.bytesOf k + P.bytesOf e ≤ 2 * B by omega)) ?_
        rw [← Nat.mul_assoc]
        exact Nat.mul_le_mul_right _ (by omega)
      · exact Nat.le_trans (weightsEntries_le hP h1 entries e f1 n hn) (Nat.mul_le_mul_right _ (by omega))
    · cases hn
  | .held h, t, ht, n, hn => by simp [DataW.weights] at hn
theorem weightsAll_le {H : Type} {P : Program} {B : Nat} (hP : ∀ t, t < P.types.size → fineB P B t = true) (h1 : 1 ≤ B) : ∀ (l : List (DataW H)) (e : TypeId), e < P.types.size → ∀ n ∈ DataW.weightsAll P e l, n ≤ Rows.uptoBulkAll l * B
  | [], e, ht, n, hn => by simp [DataW.weightsAll] at hn
  | d :: r, e, ht, n, hn => by
    simp only [DataW.weightsAll, List.mem_append] at hn
    simp only [Rows.uptoBulkAll, Nat.add_mul]
    rcases hn with hn | hn
    · have := weights_le hP h1 d e ht n hn; omega
    · have := weightsAll_le hP h1 r e ht n hn; omega
theorem weightsEach_le {H : Type} {P : Program} {B : Nat} (hP : ∀ t, t < P.types.size → fineB P B t = true) (h1 : 1 ≤ B) : ∀ (l : List (DataW H)) (ts : List TypeId), (∀ t ∈ ts, t < P.types.size) → ∀ n ∈ DataW.weightsEach P ts l, n ≤ Rows.uptoBulkAll l * B
  | [], ts, ht, n, hn => by cases ts <;> simp [DataW.weightsEach] at hn
  | d :: r, ts, ht, n, hn => by
    cases ts with
    | nil => simp [DataW.weightsEach] at hn
    | cons t ts =>
      simp only [DataW.weightsEach, List.mem_append] at hn
      simp only [Rows.uptoBulkAll, Nat.add_mul]
      rcases hn with hn | hn
      · have := weights_le hP h1 d t (ht t (by simp)) n hn; omega
      · have := weightsEach_le hP h1 r ts (fun u hu => ht u (by simp [hu])) n hn; omega
theorem weightsEntries_le {H : Type} {P : Program} {B : Nat} (hP : ∀ t, t < P.types.size → fineB P B t = true) (h1 : 1 ≤ B) : ∀ (l : List (Lit × DataW H)) (e : TypeId), e < P.types.size → ∀ n ∈ DataW.weightsEntries P e l, n ≤ Rows.uptoBulkEntries l * B
  | [], e, ht, n, hn => by simp [DataW.weightsEntries] at hn
  | x :: r, e, ht, n, hn => by
    simp only [DataW.weightsEntries, List.mem_append] at hn
    simp only [Rows.uptoBulkEntries, Nat.add_mul]
    rcases hn with hn | hn
    · have := weightsEntry_le hP h1 x e ht n hn; omega
    · have := weightsEntries_le hP h1 r e ht n hn; omega
theorem weightsEntry_le {H : Type} {P : Program} {B : Nat} (hP : ∀ t, t < P.types.size → fineB P B t = true) (h1 : 1 ≤ B) : ∀ (x : Lit × DataW H) (e : TypeId), e < P.types.size → ∀ n ∈ DataW.weightsEntry P e x, n ≤ Rows.uptoBulkEntry x * B
  | (k, d), e, ht, n, hn => by
    have ih := weights_le hP h1 d e ht n
    cases k with
    | string bytes =>
      simp only [DataW.weightsEntry, List.mem_cons] at hn
      simp only [Rows.uptoBulkEntry]
      rcases hn with rfl | hn
      · exact Nat.le_trans (Nat.le_mul_of_pos_right _ h1) (Nat.mul_le_mul_right _ (by omega))
      · exact Nat.le_trans (ih hn) (Nat.mul_le_mul_right _ (by omega))
    | _ =>
      simp only [DataW.weightsEntry] at hn
      simp only [Rows.uptoBulkEntry]
      exact Nat.le_trans (ih hn) (Nat.mul_le_mul_right _ (by omega))
end
theorem all_le {H : Type} {P : Program} {B : Nat} (hP : ∀ t, t < P.types.size → fineB P B t = true) (h1 : 1 ≤ B) {N : Nat} {l : List (DataW H)} {ts : List TypeId} (hts : (ts.all fun t => decide (t < P.types.size)) = true) (hN : Rows.uptoBulkAll l ≤ N) : (DataW.weightsEach P ts l).all (· ≤ N * B) = true := by
  rw [List.all_eq_true]
  intro n hn
  have := weightsEach_le hP h1 l ts (fun t ht => of_decide_eq_true (List.all_eq_true.1 hts t ht)) n hn
  exact decide_eq_true (Nat.le_trans this (Nat.mul_le_mul_right _ hN))
end Go.Proofs.YtipenplplmdclaaDoor.Bulk
end
section
namespace Go.Proofs.YtipenplplmdclaaDoor.Laid
open Go Go.RowKit
theorem half_data {H : Type} : Rows.laid_gong_crc_half (H := H) = Lib.tabData .u32 Crc.halfL := rfl
def boolData {H : Type} (bs : List Bool) : DataW H := .agg (bs.map fun b => .lit (.bool b))
set_option maxRecDepth 100000 in
theorem whats_data {H : Type} : Rows.laid_gong_ticket_whats (H := H) = boolData Px.whatsL := rfl
theorem trod_bool {H : Type} {enc : TypeId × Value → H} {P : Program} {W : World} {base : Nat} {sp : Nat → Bool} {held : Bool} {fuel : Nat} {t : TypeId} {cs : List Value} {y : DataW H} {p : List MemPlace}
    (h : P.underlying t = some .bool) (ht : DataW.trod enc P W base sp held fuel t cs = some (y, p)) : ∃ b : Bool, cs = [.bool b] ∧ y = .lit (.bool b) := by
  cases fuel with
  | zero => simp [DataW.trod] at ht
  | succ fuel =>
    simp only [DataW.trod, h] at ht
    split at ht <;> first | (rename_i h1 h2; cases h1) | skip
    all_goals first | (cases ht; done) | skip
    all_goals simp_all
theorem cells_of_bools {H : Type} {enc : TypeId × Value → H} {P : Program} {w : World} {base : Nat} {sp : Nat → Bool} {held : Bool} {fuel : Nat} {t e : TypeId} {n : Nat} {cs : List Value} {zs : List Bool} {p : List MemPlace}
    (ht : P.underlying t = some (.array n e)) (he : P.underlying e = some .bool) (hce : P.cellsOf e = 1) (hct : P.cellsOf t = n)
    (h : DataW.trod enc P w base sp held fuel t cs = some (boolData zs, p)) : cs = zs.map Value.bool := by
  cases fuel with
  | zero => simp [DataW.trod] at h
  | succ fuel =>
    simp only [DataW.trod, ht, hce, hct, Nat.mul_one] at h
    split at h
    · rename_i hl
      obtain ⟨xs, hm, hx⟩ := Option.map_eq_some_iff.1 h
      have hxs : xs.map (·.1) = zs.map fun z => (DataW.lit (.bool z) : DataW H) := by
        have := congrArg Prod.fst hx
        simpa [boolData] using this
      have hxl : xs.length = n := by simpa using Lib.mapM_length hm
      have hzl : zs.length = n := by
        have := congrArg List.length hxs
        simp at this
        omega
      apply List.ext_getElem?
      intro i
      by_cases hi : i < n
      · obtain ⟨b, hb, hf⟩ := Lib.mapM_at hm i i (by simp [hi])
        obtain ⟨z, hc, hy⟩ := trod_bool he hf
        have h1 : cs[i]? = some (.bool z) := by
          have := congrArg (·[0]?) hc
          simpa [List.getElem?_take, List.getElem?_drop] using this
        have h2 : (xs.map (·.1))[i]? = some (DataW.lit (.bool z) : DataW H) := by simp [hb, hy]
        rw [hxs] at h2
        simp only [List.getElem?_map, Option.map_eq_some_iff, DataW.lit.injEq, Lit.bool.injEq] at h2
        obtain ⟨z', hz', rfl⟩ := h2
        simp [h1, hz']
      · rw [List.getElem?_eq_none (by omega), List.getElem?_eq_none (by simp; omega)]
    · cases h
theorem tabs {W : World} (h : laidMetH Tryd.prog [("gong/crc.half", Rows.laid_gong_crc_half), ("gong/ticket.whats", Rows.laid_gong_ticket_whats)] W) : Px.TabW W := by
  rw [MakeChecks.laidMetH_plain _ _ _ (by kernel_rfl), half_data, whats_data] at h
  refine ⟨Lib.tabIs_of_head (g := 1) (t := 90) (e := 43) (n := 16) (by kernel_rfl) (by kernel_rfl) Tryd.underlying90 Tryd.underlying43 (by kernel_rfl) (by kernel_rfl) h, ?_⟩
  obtain ⟨ps, ⟨g', t', cs, fuel, p, q, hg', ht', hvar, hd, _, _⟩, _⟩ := h.tail
  obtain rfl := Option.some.inj (Px.whats_at.symm.trans hg')
  obtain rfl := Option.some.inj ((show (Tryd.prog.globals[0]?).map (·.type) = some 54 by kernel_rfl).symm.trans ht')
  show W.var? Tryd.prog "gong/ticket.whats" = some (Px.whatsL.map Value.bool).toArray
  rw [hvar, ← cells_of_bools Tryd.underlying54 Tryd.underlying4 (by kernel_rfl) (by kernel_rfl) hd]
end Go.Proofs.YtipenplplmdclaaDoor.Laid
end
section
namespace Go.Proofs.YtipenplplmdclaaDoor.ticketTurnedUpto
open Go.ChangeShapes Go.WideShapes Go.ChangeAt Go.RowKit Go.Proofs.YtipenplplmdclaaDoorW.PrintWords
open Go.ChangeMaps (open_string shut_string)
theorem own : ownKnob Tryd.prog.godebug = none := by kernel_rfl
theorem laidOut : laidOutB Tryd.prog = true := by kernel_rfl
def laidL : List (String × DataW Unit) := [("gong/crc.half", Rows.laid_gong_crc_half), ("gong/ticket.whats", Rows.laid_gong_ticket_whats)]
theorem door_met (os : Os) (args : Array Value) : laidMetH Tryd.prog laidL ((World.doorLaid Tryd.prog 19 os).forCall (fun _ _ => 0) ⟨#[], args, []⟩).memory :=
  laidMetH_of_parts3 (fuel := 8) (laidMet_of_run' 8 (by kernel_rfl) (by kernel_rfl)) (by kernel_rfl) (by kernel_rfl)
theorem types_ok : ∀ t, t < Tryd.prog.types.size → Bulk.fineB Tryd.prog 128 t = true := by
  have h : (List.range Tryd.prog.types.size).all (fun t => Bulk.fineB Tryd.prog 128 t) = true := by kernel_rfl
  exact fun t ht => List.all_eq_true.1 h t (List.mem_range.2 ht)
theorem reads (os : Os) {H : Type} (enc : TypeId × Value → H) : ∃ x : List MemPlace, DataW.whole enc Tryd.prog ((World.doorLaid Tryd.prog 19 os).forCall (fun _ _ => 0) ⟨#[], #[.agg #[.int .i64 0, .int .i64 0, .int .i64 0, .string ByteArray.empty, .string ByteArray.empty, .string ByteArray.empty, .int .i64 0, .string ByteArray.empty, .int .i64 0, .int .i64 0, .int .i64 0, .bool false, .string ByteArray.empty], .int .i64 0, .int .u32 0], []⟩).memory Tryd.f6.params.toList Rows.ticketTurnedSpec.vars false (#[.agg #[.int .i64 0, .int .i64 0, .int .i64 0, .string ByteArray.empty, .string ByteArray.empty, .string ByteArray.empty, .int .i64 0, .string ByteArray.empty, .int .i64 0, .int .i64 0, .int .i64 0, .bool false, .string ByteArray.empty], .int .i64 0, .int .u32 0] : Array Value).toList 8 = some ([.agg [.lit (.int .i64 0), .lit (.int .i64 0), .agg [.lit (.int .i64 0), .agg [.lit (.string []), .lit (.string []), .lit (.string []), .lit (.int .i64 0), .lit (.string [])], .lit (.int .i64 0), .lit (.int .i64 0), .lit (.int .i64 0), .lit (.bool false), .lit (.string [])]], .lit (.int .i64 0), .lit (.int .u32 0)], [], x) :=
  ⟨[], by kernel_rfl⟩
set_option maxRecDepth 100000 in
theorem lifted (os : Os) (started : os.Started) (H : Type) (enc : TypeId × Value → H) (F : Stop.Interp) :
    ReturnsInHanded {} Tryd.checked os 6 .any ((Rows.OpenSpec.upto Rows.ticketTurnedSpec).preRow enc Tryd.prog Tryd.f6 Rows.ticketTurnedUptoRow.domain false Rows.ticketTurnedUptoRow.laid) (((Rows.OpenSpec.upto Rows.ticketTurnedSpec).at F).post enc Tryd.prog Tryd.f6 false true false false) := by
  obtain ⟨places, hx⟩ := reads os enc
  refine returnsInHanded_of_row (C := Tryd.checked) (s := Rows.OpenSpec.upto Rows.ticketTurnedSpec) own started (by kernel_rfl) Tryd.func6
    (witness_row_at (enc := enc) (C := Tryd.checked) false (World.doorLaid Tryd.prog 19 os) #[.agg #[.int .i64 0, .int .i64 0, .int .i64 0, .string ByteArray.empty, .string ByteArray.empty, .string ByteArray.empty, .int .i64 0, .string ByteArray.empty, .int .i64 0, .int .i64 0, .int .i64 0, .bool false, .string ByteArray.empty], .int .i64 0, .int .u32 0] rfl (by kernel_rfl) (by kernel_rfl) (by kernel_rfl)
      (OpenSpec.preRow_of_cond 8 hx (by kernel_rfl) (fun k hk => by cases hk; kernel_rfl) (by kernel_rfl) (door_met os _))) ?_
  intro W base args ds gs before hval0 hW _ hcond hsz0 hL _ _
  have hU : (DataW.weightsEach Tryd.prog (Tryd.f6.params.toList ++ Rows.ticketTurnedSpec.plain.varTypes Tryd.prog) (ds ++ gs)).all (· ≤ 134217728) = true := Bulk.all_le types_ok (by decide) (by kernel_rfl) (N := 1048576) (of_decide_eq_true (hcond _ rfl))
  have HT : Px.TabW W := Laid.tabs hL
  have hsz : (DataW.weightsEach Tryd.prog (Tryd.f6.params.toList ++ Rows.ticketTurnedSpec.plain.varTypes Tryd.prog) (ds ++ gs)).all (· ≤ reachBytes) = true := hsz0
  have hval : ∀ (j : Nat) t v, Tryd.f6.params[j]? = some t → args[j]? = some v → Value.okWide Tryd.prog W .any base t v := hval0
  have hW' := hW
  obtain ⟨p, q, hA0, hV, rfl, hfz, hnd⟩ := hW
  have hA : DataW.TrodAll enc Tryd.prog W 0 (fun _ => true) true Tryd.f6.params.toList args.toList ds p := hA0
  rw [Tryd.params6] at hA hval hsz hU
  obtain ⟨v0, vs0, d0, ds0, p0, q0, hargs, rfl, rfl, h0, r0⟩ := trodAll_cons hA
  obtain ⟨v1, vs1, d1, ds1, p1, q1, rfl, rfl, rfl, h1, r1⟩ := trodAll_cons r0
  obtain ⟨v2, vs2, d2, ds2, p2, q2, rfl, rfl, rfl, h2, r2⟩ := trodAll_cons r1
  obtain ⟨rfl, rfl, rfl⟩ := trodAll_nil r2
  obtain rfl : args = #[v0, v1, v2] := by cases args; simp_all
  obtain ⟨rfl, rfl⟩ := trodVars_none hV
  obtain ⟨a0, rfl, _⟩ := okWide_struct Tryd.underlying27 (hval 0 27 v0 rfl rfl)
  have k0 := h0
  have lt0 : ∀ x ∈ p0, x.block < W.heap.size := by obtain ⟨m, hm⟩ := k0; exact DataW.trod_lt m _ _ _ hm
  obtain ⟨x0, hx0, wf0⟩ := Open.agg_arg (d := Px.k27) (Open.struct Tryd.underlying27 (by kernel_rfl) (Open.field_more rfl (Open.int Tryd.underlying3 (by kernel_rfl)) (Open.field_more rfl (Open.int Tryd.underlying3 (by kernel_rfl)) (Open.field_last rfl (Open.struct Tryd.underlying25 (by kernel_rfl) (Open.field_more rfl (Open.int Tryd.underlying3 (by kernel_rfl)) (Open.field_more rfl (Open.struct Tryd.underlying23 (by kernel_rfl) (Open.field_more rfl (Open.string Tryd.underlying9 (by kernel_rfl)) (Open.field_more rfl (Open.string Tryd.underlying9 (by kernel_rfl)) (Open.field_more rfl (Open.string Tryd.underlying9 (by kernel_rfl)) (Open.field_more rfl (Open.int Tryd.underlying3 (by kernel_rfl)) (Open.field_last rfl (Open.string Tryd.underlying9 (by kernel_rfl))))))) (fun x : Px.S23 => (x.f0, x.f1, x.f2, x.f3, x.f4)) (fun y => ⟨y.1, y.2.1, y.2.2.1, y.2.2.2.1, y.2.2.2.2⟩) (fun _ => rfl)) (Open.field_more rfl (Open.int Tryd.underlying3 (by kernel_rfl)) (Open.field_more rfl (Open.int Tryd.underlying3 (by kernel_rfl)) (Open.field_more rfl (Open.int Tryd.underlying3 (by kernel_rfl)) (Open.field_more rfl (Open.bool Tryd.underlying4 (by kernel_rfl)) (Open.field_last rfl (Open.string Tryd.underlying9 (by kernel_rfl))))))))) (fun x : Px.S25 => (x.f0, x.f1, x.f2, x.f3, x.f4, x.f5, x.f6)) (fun y => ⟨y.1, y.2.1, y.2.2.1, y.2.2.2.1, y.2.2.2.2.1, y.2.2.2.2.2.1, y.2.2.2.2.2.2⟩) (fun _ => rfl))))) (fun x : Px.S27 => (x.f0, x.f1, x.f2)) (fun y => ⟨y.1, y.2.1, y.2.2⟩) (fun _ => rfl)) h0 hU (j := 0) (t := 27) rfl rfl
  obtain ⟨a1, rfl, rfl, rfl, w1⟩ := open_int Tryd.underlying3 (hval 1 3 v1 rfl rfl) h1
  obtain ⟨a2, rfl, rfl, rfl, w2⟩ := open_int Tryd.underlying43 (hval 2 43 v2 rfl rfl) h2
  clear hA0 hval0 hsz0 hsz hU hcond
  have hk := Pure.TicketTurned x0 a1 a2 wf0 w1 w2
  refine (Px.gonglaw23_TicketTurned.whole a0 x0 a1 a2 true W hx0 ⟨HT⟩ hk).mono fun e W' ⟨he, hd⟩ => ?_
  subst he
  have bel : Below W.heap.size W W' := hd
  exact ⟨_, rfl, _, _, _, [], _, [], hW', trodAll_mk1 (shut_bool Tryd.underlying4 _), (trodAll_cons_mk (Below.trod laidOut (by kernel_rfl) (of_decide_eq_true (by kernel_rfl)) k0 bel lt0) (trodAll_cons_mk (shut_int Tryd.underlying3 w1) (trodAll_cons_mk (shut_int Tryd.underlying43 w2) trodAll_mk0))), rfl, bel.frame _, fun h => by cases h⟩
theorem over : Rows.ticketTurnedUptoRow.holds Tryd.pinned (Rows.OpenSpec.upto Rows.ticketTurnedSpec) :=
  OpenClaim.holds_of_cond 6 Tryd.f6 rfl rfl rfl rfl rfl rfl rfl ⟨rfl, rfl, rfl, rfl, rfl⟩ rfl rfl rfl rfl rfl (by kernel_rfl) Tryd.func6 (by kernel_rfl)
    (of_decide_eq_true (by kernel_rfl)) (by unfold Func.isWrapper; first | (rw [if_pos (by decide +kernel)]; kernel_rfl) | (rw [if_neg (by decide +kernel)]; exact ⟨rfl, rfl⟩))
    (fun os started H enc _ F => by rw [OpenClaim.pre_eq_preRow]; exact lifted os started H enc F)
theorem proved : Rows.TicketTurnedUptoCardSaid :=
  Claim7.holds_tied_plain_at .later [] [.data, .data] true (true, "9f82870e36640dfb5702ad76a2b84487ece746f37b5575c84b21c1295ff48b59") false
    over (fun _ h => by cases h) (by kernel_rfl) (fun _ h => by cases h) ticketTurnedUpto_row_tie rfl ⟨rfl, rfl⟩ (by kernel_rfl) rfl
    (fun f fn hf hfn => by
      obtain rfl : f = 6 := Option.some.inj ((show Tryd.prog.funcNamed "gong/gonglaw23.TicketTurned" = some 6 by kernel_rfl).symm.trans hf) |>.symm
      obtain rfl : fn = Tryd.f6 := (Option.some.inj (Tryd.func6.symm.trans hfn)).symm
      exact ⟨by kernel_rfl, fun j t ht => by
        rw [Tryd.params6] at ht
        have hm : t ∈ [27, 3, 43] := by simpa using Array.mem_of_getElem? ht
        have hall : ([27, 3, 43].all fun u => !Tryd.prog.wantsStandIn u) = true := by kernel_rfl
        exact (show Tryd.prog.wantsStandIn t = false by simpa using List.all_eq_true.1 hall t hm)⟩)
    (by kernel_rfl)
#print axioms proved
end Go.Proofs.YtipenplplmdclaaDoor.ticketTurnedUpto
namespace Go.Proofs.YtipenplplmdclaaDoor
theorem ticketTurned_upto : Rows.TicketTurnedUptoCardSaid := ticketTurnedUpto.proved
end Go.Proofs.YtipenplplmdclaaDoor
end
