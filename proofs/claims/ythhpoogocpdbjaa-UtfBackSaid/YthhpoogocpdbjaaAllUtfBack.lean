import Derived.Test.YthhpoogocpdbjaaStr
import Derived.Test.YthhpoogocpdbjaaPx1
import Derived.Test.YthhpoogocpdbjaaPx2
import Derived.Test.YthhpoogocpdbjaaPx5
import Derived.Test.YthhpoogocpdbjaaPx6
import Derived.Test.YthhpoogocpdbjaaPx4
import Derived.Test.YthhpoogocpdbjaaOct
import Derived.Test.YthhpoogocpdbjaaPx8
import Derived.Test.YthhpoogocpdbjaaPx7
import Derived.Test.YthhpoogocpdbjaaPx9
import Derived.Test.YthhpoogocpdbjaaPx3
import Derived.Test.YthhpoogocpdbjaaRows
import Derived.WalkKit
import Derived.ProofKit
import Derived.OpenShut
import Derived.ShutString
import Derived.ChangeOld
import Derived.Below
import Derived.SizedLaws
import Derived.Test.YthhpoogocpdbjaaWSized
set_option linter.unusedVariables false
set_option linter.unusedSimpArgs false
/-! Utf -/
section
/- UTF-8 over lists of bytes: a character's bytes, the first character, all characters, what is shown, what is cut. -/
namespace Go.Proofs.Ythhpoogocpdbjaa.Utf
open Go
def isC (c : Nat) : Prop := c ≤ 1114111 ∧ (c < 55296 ∨ 57343 < c)
instance (c : Nat) : Decidable (isC c) := by unfold isC; infer_instance
def encN (c : Nat) : List Nat :=
  if c < 128 then [c] else if c < 2048 then [192 + c / 64, 128 + c % 64]
  else if c < 65536 then [224 + c / 4096, 128 + c / 64 % 64, 128 + c % 64]
  else [240 + c / 262144, 128 + c / 4096 % 64, 128 + c / 64 % 64, 128 + c % 64]
def enc (c : Nat) : List UInt8 := (encN c).map UInt8.ofNat
def decN : List Nat → Option (Nat × Nat)
  | [] => none
  | a :: l =>
    if a < 128 then some (a, 1)
    else if a / 32 = 6 then (match l with
      | b :: _ => if b / 64 = 2 ∧ 128 ≤ a % 32 * 64 + b % 64 then some (a % 32 * 64 + b % 64, 2) else none
      | _ => none)
    else if a / 16 = 14 then (match l with
      | b :: c :: _ => if b / 64 = 2 ∧ c / 64 = 2 ∧ 2048 ≤ (a % 16 * 64 + b % 64) * 64 + c % 64 ∧ isC ((a % 16 * 64 + b % 64) * 64 + c % 64) then some ((a % 16 * 64 + b % 64) * 64 + c % 64, 3) else none
      | _ => none)
    else if a / 8 = 30 then (match l with
      | b :: c :: d :: _ => if b / 64 = 2 ∧ c / 64 = 2 ∧ d / 64 = 2 ∧ 65536 ≤ ((a % 8 * 64 + b % 64) * 64 + c % 64) * 64 + d % 64 ∧ isC (((a % 8 * 64 + b % 64) * 64 + c % 64) * 64 + d % 64) then some (((a % 8 * 64 + b % 64) * 64 + c % 64) * 64 + d % 64, 4) else none
      | _ => none)
    else none
def nat (l : List UInt8) : List Nat := l.map UInt8.toNat
def dec (l : List UInt8) : Option (Nat × Nat) := decN (nat l)
theorem nat_ofNat (l : List Nat) (h : ∀ x ∈ l, x < 256) : nat (l.map UInt8.ofNat) = l := by
  unfold nat
  rw [List.map_map]
  conv => rhs; rw [← List.map_id l]
  apply List.map_congr_left
  intro x hx
  have := h x hx
  simp
  omega
theorem encN_small (c : Nat) (h : isC c) : ∀ x ∈ encN c, x < 256 := by
  unfold isC at h
  unfold encN
  intro x hx
  split at hx
  · simp at hx; omega
  · split at hx
    · simp at hx; omega
    · split at hx
      · simp at hx; omega
      · simp at hx; omega
theorem nat_enc (c : Nat) (h : isC c) : nat (enc c) = encN c := nat_ofNat _ (encN_small c h)
theorem enc_length (c : Nat) : (enc c).length = (encN c).length := by simp [enc]
theorem encN_length (c : Nat) : 1 ≤ (encN c).length ∧ (encN c).length ≤ 4 := by
  unfold encN
  split
  · simp
  · split
    · simp
    · split <;> simp
theorem enc_len (c : Nat) : 1 ≤ (enc c).length ∧ (enc c).length ≤ 4 := by rw [enc_length]; exact encN_length c
theorem decN_enc (c : Nat) (h : isC c) (r : List Nat) : decN (encN c ++ r) = some (c, (encN c).length) := by
  have h' := h
  unfold isC at h'
  unfold encN
  by_cases h1 : c < 128
  · rw [if_pos h1]
    simp only [List.cons_append, decN, if_pos h1, List.length_cons, List.length_nil]
  · rw [if_neg h1]
    by_cases h2 : c < 2048
    · rw [if_pos h2]
      have e : (192 + c / 64) % 32 * 64 + (128 + c % 64) % 64 = c := by omega
      simp only [List.cons_append, List.nil_append, decN, List.length_cons, List.length_nil, e]
      rw [if_neg (by omega), if_pos (by omega), if_pos (by omega)]
    · rw [if_neg h2]
      by_cases h3 : c < 65536
      · rw [if_pos h3]
        have e : ((224 + c / 4096) % 16 * 64 + (128 + c / 64 % 64) % 64) * 64 + (128 + c % 64) % 64 = c := by omega
        simp only [List.cons_append, List.nil_append, decN, List.length_cons, List.length_nil, e]
        rw [if_neg (by omega), if_neg (by omega), if_pos (by omega), if_pos ⟨by omega, by omega, by omega, h⟩]
      · rw [if_neg h3]
        have e : (((240 + c / 262144) % 8 * 64 + (128 + c / 4096 % 64) % 64) * 64 + (128 + c / 64 % 64) % 64) * 64 + (128 + c % 64) % 64 = c := by omega
        simp only [List.cons_append, List.nil_append, decN, List.length_cons, List.length_nil, e]
        rw [if_neg (by omega), if_neg (by omega), if_neg (by omega), if_pos (by omega), if_pos ⟨by omega, by omega, by omega, by omega, h⟩]
theorem decN_inv (l : List Nat) (hl : ∀ x ∈ l, x < 256) {c n : Nat} (h : decN l = some (c, n)) : isC c ∧ n = (encN c).length ∧ l.take n = encN c := by
  cases l with
  | nil => cases h
  | cons a l =>
    have ha := hl a (by simp)
    simp only [decN] at h
    by_cases h1 : a < 128
    · rw [if_pos h1] at h
      cases h
      refine ⟨⟨by omega, by omega⟩, ?_, ?_⟩
      · unfold encN; rw [if_pos h1]; rfl
      · unfold encN; rw [if_pos h1]; rfl
    · rw [if_neg h1] at h
      by_cases h2 : a / 32 = 6
      · rw [if_pos h2] at h
        cases l with
        | nil => cases h
        | cons b l =>
          have hb := hl b (by simp)
          simp only at h
          split at h
          · rename_i hc
            cases h
            have e : encN (a % 32 * 64 + b % 64) = [a, b] := by
              unfold encN
              rw [if_neg (by omega), if_pos (by omega)]
              congr 1
              · omega
              · congr 1; omega
            rw [e]
            exact ⟨⟨by omega, by omega⟩, rfl, rfl⟩
          · cases h
      · rw [if_neg h2] at h
        by_cases h3 : a / 16 = 14
        · rw [if_pos h3] at h
          match l, h with
          | b :: d :: l, h =>
            have hb := hl b (by simp)
            have hd := hl d (by simp)
            simp only at h
            split at h
            · rename_i hc
              cases h
              have e : encN ((a % 16 * 64 + b % 64) * 64 + d % 64) = [a, b, d] := by
                unfold encN
                rw [if_neg (by omega), if_neg (by omega), if_pos (by omega)]
                congr 1
                · omega
                · congr 1
                  · omega
                  · congr 1; omega
              rw [e]
              exact ⟨hc.2.2.2, rfl, rfl⟩
            · cases h
        · rw [if_neg h3] at h
          by_cases h4 : a / 8 = 30
          · rw [if_pos h4] at h
            match l, h with
            | b :: d :: f :: l, h =>
              have hb := hl b (by simp)
              have hd := hl d (by simp)
              have hf := hl f (by simp)
              simp only at h
              split at h
              · rename_i hc
                cases h
                have e : encN (((a % 8 * 64 + b % 64) * 64 + d % 64) * 64 + f % 64) = [a, b, d, f] := by
                  unfold encN
                  rw [if_neg (by omega), if_neg (by omega), if_neg (by omega)]
                  congr 1
                  · omega
                  · congr 1
                    · omega
                    · congr 1
                      · omega
                      · congr 1; omega
                rw [e]
                exact ⟨hc.2.2.2.2, rfl, rfl⟩
              · cases h
          · rw [if_neg h4] at h
            cases h
theorem nat_small (l : List UInt8) : ∀ x ∈ nat l, x < 256 := by
  intro x hx
  unfold nat at hx
  rw [List.mem_map] at hx
  obtain ⟨b, _, rfl⟩ := hx
  exact b.toNat_lt
theorem nat_app (a b : List UInt8) : nat (a ++ b) = nat a ++ nat b := by simp [nat]
theorem nat_inj {a b : List UInt8} (h : nat a = nat b) : a = b := by
  unfold nat at h
  exact (List.map_inj_right (fun _ _ => UInt8.toNat_inj.1)).1 h
theorem dec_enc (c : Nat) (h : isC c) (r : List UInt8) : dec (enc c ++ r) = some (c, (enc c).length) := by
  unfold dec
  rw [nat_app, nat_enc c h, decN_enc c h, enc_length]
theorem dec_inv {l : List UInt8} {c n : Nat} (h : dec l = some (c, n)) : isC c ∧ n = (enc c).length ∧ l = enc c ++ l.drop n := by
  obtain ⟨h1, h2, h3⟩ := decN_inv (nat l) (nat_small l) h
  refine ⟨h1, by rw [enc_length]; exact h2, ?_⟩
  have e : l.take n = enc c := by
    apply nat_inj
    rw [nat_enc c h1, ← h3]
    simp [nat, List.map_take]
  rw [← e, List.take_append_drop]
theorem dec_nil : dec [] = none := rfl
theorem dec_le {l : List UInt8} {c n : Nat} (h : dec l = some (c, n)) : 1 ≤ n ∧ n ≤ 4 ∧ n ≤ l.length := by
  obtain ⟨_, h2, h3⟩ := dec_inv h
  have := enc_len c
  have h4 := congrArg List.length h3
  rw [List.length_append] at h4
  omega
/-- All characters. -/
def chs (l : List UInt8) : Option (List Nat) :=
  match h : dec l with
  | none => if l = [] then some [] else none
  | some (c, n) => (chs (l.drop n)).map (c :: ·)
termination_by l.length
decreasing_by
  have := dec_le h
  rw [List.length_drop]
  omega
theorem chs_nil : chs [] = some [] := by
  rw [chs]
  split
  · rfl
  · rename_i h
    cases h
theorem chs_none {l : List UInt8} (h : dec l = none) (hl : l ≠ []) : chs l = none := by
  rw [chs]
  split
  · rw [if_neg hl]
  · rename_i h'
    rw [h] at h'
    cases h'
theorem chs_some {l : List UInt8} {c n : Nat} (h : dec l = some (c, n)) : chs l = (chs (l.drop n)).map (c :: ·) := by
  rw [chs]
  split
  · rename_i h'
    rw [h] at h'
    cases h'
  · rename_i c' n' h'
    rw [h] at h'
    cases h'
    rfl
def encs (cs : List Nat) : List UInt8 := cs.flatMap enc
theorem encs_cons (c : Nat) (cs : List Nat) : encs (c :: cs) = enc c ++ encs cs := by simp [encs]
theorem encs_app (a b : List Nat) : encs (a ++ b) = encs a ++ encs b := by simp [encs]
theorem chs_cons (c : Nat) (h : isC c) (r : List UInt8) : chs (enc c ++ r) = (chs r).map (c :: ·) := by
  rw [chs_some (dec_enc c h r), List.drop_left]
theorem chs_encs (cs : List Nat) (h : ∀ c ∈ cs, isC c) (r : List UInt8) : chs (encs cs ++ r) = (chs r).map (cs ++ ·) := by
  induction cs with
  | nil => cases hr : chs r <;> simp [encs, hr]
  | cons c cs ih =>
    rw [encs_cons, List.append_assoc, chs_cons c (h c (by simp)), ih (fun x hx => h x (by simp [hx]))]
    cases chs r <;> simp
theorem chs_all (cs : List Nat) (h : ∀ c ∈ cs, isC c) : chs (encs cs) = some cs := by
  have := chs_encs cs h []
  rw [List.append_nil, chs_nil] at this
  simpa using this
theorem chs_inv (n : Nat) : ∀ (l : List UInt8) (cs : List Nat), l.length ≤ n → chs l = some cs → (∀ c ∈ cs, isC c) ∧ l = encs cs := by
  induction n with
  | zero =>
    intro l cs hl h
    obtain rfl : l = [] := List.length_eq_zero_iff.mp (by omega)
    rw [chs_nil] at h
    cases h
    exact ⟨by simp, rfl⟩
  | succ n ih =>
    intro l cs hl h
    cases hd : dec l with
    | none =>
      by_cases h0 : l = []
      · subst h0
        rw [chs_nil] at h
        cases h
        exact ⟨by simp, rfl⟩
      · rw [chs_none hd h0] at h
        cases h
    | some x =>
      obtain ⟨c, k⟩ := x
      have hk := dec_le hd
      obtain ⟨i1, i2, i3⟩ := dec_inv hd
      rw [chs_some hd] at h
      cases hr : chs (l.drop k) with
      | none => rw [hr] at h; cases h
      | some ds =>
        rw [hr] at h
        cases h
        obtain ⟨j1, j2⟩ := ih (l.drop k) ds (by rw [List.length_drop]; omega) hr
        refine ⟨fun x hx => ?_, ?_⟩
        · rw [List.mem_cons] at hx
          rcases hx with rfl | hx
          · exact i1
          · exact j1 x hx
        · rw [encs_cons, ← j2]
          exact i3
theorem chs_iff {l : List UInt8} {cs : List Nat} : chs l = some cs ↔ (∀ c ∈ cs, isC c) ∧ l = encs cs :=
  ⟨chs_inv l.length l cs (Nat.le_refl _), fun ⟨h, e⟩ => by rw [e]; exact chs_all cs h⟩
theorem chs_length {l : List UInt8} {cs : List Nat} (h : chs l = some cs) : cs.length ≤ l.length := by
  obtain ⟨h1, e⟩ := chs_iff.1 h
  rw [e]
  clear h e h1
  induction cs with
  | nil => simp [encs]
  | cons c cs ih => rw [encs_cons, List.length_append]; have := enc_len c; simp; omega
/-- Whether a byte goes on with a character. -/
def cont (b : UInt8) : Prop := b.toNat / 64 = 2
instance (b : UInt8) : Decidable (cont b) := by unfold cont; infer_instance
theorem enc_cont (c : Nat) (h : isC c) (i : Nat) (b : UInt8) (hi : (enc c)[i]? = some b) : cont b ↔ 0 < i := by
  unfold isC at h
  have hn : (encN c)[i]? = some b.toNat := by
    rw [← nat_enc c h]
    simp [nat, hi]
  unfold cont
  generalize b.toNat = x at hn
  unfold encN at hn
  split at hn
  · match i, hn with
    | 0, hn => simp at hn; omega
    | i + 1, hn => simp at hn
  · split at hn
    · match i, hn with
      | 0, hn => simp at hn; omega
      | 1, hn => simp at hn; omega
      | i + 2, hn => simp at hn
    · split at hn
      · match i, hn with
        | 0, hn => simp at hn; omega
        | 1, hn => simp at hn; omega
        | 2, hn => simp at hn; omega
        | i + 3, hn => simp at hn
      · match i, hn with
        | 0, hn => simp at hn; omega
        | 1, hn => simp at hn; omega
        | 2, hn => simp at hn; omega
        | 3, hn => simp at hn; omega
        | i + 4, hn => simp at hn
/-- How many bytes the first characters have that have at most m. -/
def fit : List Nat → Nat → Nat
  | [], _ => 0
  | c :: cs, m => if (enc c).length ≤ m then (enc c).length + fit cs (m - (enc c).length) else 0
theorem fit_all (cs : List Nat) : ∀ m, (encs cs).length ≤ m → fit cs m = (encs cs).length := by
  induction cs with
  | nil => intro m _; rfl
  | cons c cs ih =>
    intro m h
    rw [encs_cons, List.length_append] at h
    rw [encs_cons, List.length_append, fit, if_pos (by omega), ih _ (by omega)]
theorem fit_le (cs : List Nat) : ∀ m, fit cs m ≤ m ∧ fit cs m ≤ (encs cs).length := by
  induction cs with
  | nil => intro m; simp [fit]
  | cons c cs ih =>
    intro m
    rw [encs_cons, List.length_append, fit]
    have := ih (m - (enc c).length)
    split <;> omega
/-- A place behind which no character goes on is one where characters end. -/
theorem fit_at (cs : List Nat) : ∀ m, (∀ c ∈ cs, isC c) → (m = 0 ∨ (encs cs).length ≤ m ∨ ∃ b, (encs cs)[m]? = some b ∧ ¬ cont b) → fit cs m = min m (encs cs).length := by
  induction cs with
  | nil => intro m _ _; simp [fit, encs]
  | cons c cs ih =>
    intro m hc h
    have he := enc_len c
    rw [fit]
    by_cases hm : (enc c).length ≤ m
    · rw [if_pos hm, encs_cons, List.length_append]
      rw [encs_cons, List.length_append, List.getElem?_append_right hm] at h
      rw [ih (m - (enc c).length) (fun x hx => hc x (by simp [hx])) (by
        rcases h with h | h | h
        · omega
        · exact .inr (.inl (by omega))
        · exact .inr (.inr h))]
      omega
    · rw [if_neg hm]
      rcases h with h | h | ⟨b, hb, hn⟩
      · omega
      · rw [encs_cons, List.length_append] at h; omega
      · rw [encs_cons, List.getElem?_append_left (by omega)] at hb
        have := (enc_cont c (hc c (by simp)) m b hb)
        have : m = 0 := by
          rcases Nat.eq_zero_or_pos m with z | z
          · exact z
          · exact absurd (this.2 z) hn
        omega
theorem fit_back (cs : List Nat) : ∀ m, (∀ c ∈ cs, isC c) → 0 < m → (∃ b, (encs cs)[m]? = some b ∧ cont b) → fit cs m = fit cs (m - 1) := by
  induction cs with
  | nil => intro m _ _ h; obtain ⟨b, hb, _⟩ := h; simp [encs] at hb
  | cons c cs ih =>
    intro m hc h0 ⟨b, hb, hn⟩
    have he := enc_len c
    rw [encs_cons] at hb
    by_cases hm : (enc c).length ≤ m
    · rw [List.getElem?_append_right hm] at hb
      by_cases hq : m = (enc c).length
      · rw [hq, Nat.sub_self] at hb
        cases cs with
        | nil => simp [encs] at hb
        | cons d cs =>
          rw [encs_cons, List.getElem?_append_left (by have := enc_len d; omega)] at hb
          have := (enc_cont d (hc d (by simp)) 0 b hb).1 hn
          omega
      · rw [fit, fit, if_pos hm, if_pos (by omega), ih (m - (enc c).length) (fun x hx => hc x (by simp [hx])) (by omega) ⟨b, hb, hn⟩]
        congr 2
        omega
    · rw [fit, fit, if_neg hm, if_neg (by omega)]
/-- What is cut off leaves characters, and the next one would be too much. -/
theorem fit_split (cs : List Nat) : ∀ m, ∃ k, k ≤ cs.length ∧ fit cs m = (encs (cs.take k)).length ∧ (k < cs.length → ∃ c, cs[k]? = some c ∧ m < fit cs m + (enc c).length) := by
  induction cs with
  | nil => intro m; exact ⟨0, by simp, by simp [fit, encs], by simp⟩
  | cons c cs ih =>
    intro m
    by_cases hm : (enc c).length ≤ m
    · obtain ⟨k, h1, h2, h3⟩ := ih (m - (enc c).length)
      refine ⟨k + 1, by simp; omega, ?_, ?_⟩
      · rw [fit, if_pos hm, List.take_succ_cons, encs_cons, List.length_append, h2]
      · intro hk
        simp only [List.length_cons] at hk
        obtain ⟨d, h4, h5⟩ := h3 (by omega)
        refine ⟨d, by simpa using h4, ?_⟩
        rw [fit, if_pos hm]
        omega
    · refine ⟨0, by simp, by rw [fit, if_neg hm]; simp [encs], fun _ => ⟨c, by simp, ?_⟩⟩
      rw [fit, if_neg hm]
      omega
end Go.Proofs.Ythhpoogocpdbjaa.Utf
end
/-! UtfS -/
section
/- What is shown of bytes, over lists: it is UTF-8 without a control, and unlike of unlike bytes. -/
namespace Go.Proofs.Ythhpoogocpdbjaa.Utf
open Go
def digL : List UInt8 := [48, 49, 50, 51, 52, 53, 54, 55, 56, 57, 97, 98, 99, 100, 101, 102]
def dg (i : Nat) : UInt8 := digL.getD i 0
def hexL (b : UInt8) : List UInt8 := [92, 120, dg (b.toNat / 16), dg (b.toNat % 16)]
def unit (l : List UInt8) : List UInt8 × Nat :=
  match dec l with
  | some (c, n) => if c < 32 ∨ c = 127 then (hexL (l.headD 0), 1) else if c = 92 then ([92, 92], n) else (l.take n, n)
  | none => (hexL (l.headD 0), 1)
theorem unit_none {l : List UInt8} (h : dec l = none) : unit l = (hexL (l.headD 0), 1) := by unfold unit; rw [h]
theorem unit_ctl {l : List UInt8} {c n : Nat} (h : dec l = some (c, n)) (hc : c < 32 ∨ c = 127) : unit l = (hexL (l.headD 0), 1) := by unfold unit; rw [h]; exact if_pos hc
theorem unit_back {l : List UInt8} {n : Nat} (h : dec l = some (92, n)) : unit l = ([92, 92], n) := by unfold unit; rw [h]; rfl
theorem unit_plain {l : List UInt8} {c n : Nat} (h : dec l = some (c, n)) (hc : ¬ (c < 32 ∨ c = 127)) (h9 : c ≠ 92) : unit l = (l.take n, n) := by
  unfold unit
  rw [h]
  simp only
  rw [if_neg hc, if_neg h9]
theorem unit_pos (l : List UInt8) : 1 ≤ (unit l).2 ∧ (unit l).2 ≤ 4 := by
  cases h : dec l with
  | none => rw [unit_none h]; show 1 ≤ 1 ∧ 1 ≤ 4; decide
  | some x =>
    obtain ⟨c, n⟩ := x
    have := dec_le h
    by_cases hc : c < 32 ∨ c = 127
    · rw [unit_ctl h hc]; show 1 ≤ 1 ∧ 1 ≤ 4; decide
    · by_cases h9 : c = 92
      · subst h9; rw [unit_back h]; exact ⟨this.1, this.2.1⟩
      · rw [unit_plain h hc h9]; exact ⟨this.1, this.2.1⟩
theorem enc_ascii (c : Nat) (h : c < 128) : enc c = [UInt8.ofNat c] := by
  unfold enc encN
  rw [if_pos h]
  rfl
theorem enc_u8 (b : UInt8) (h : b.toNat < 128) : enc b.toNat = [b] := by
  rw [enc_ascii _ h]
  congr 1
  simp
theorem head_ascii {l : List UInt8} {c n : Nat} (h : dec l = some (c, n)) (hc : c < 128) : ∃ t, l = UInt8.ofNat c :: t ∧ n = 1 := by
  obtain ⟨_, h2, h3⟩ := dec_inv h
  rw [enc_ascii c hc] at h2 h3
  exact ⟨_, h3, h2⟩
theorem unit_cases (l : List UInt8) (h : l ≠ []) :
    (∃ b t, l = b :: t ∧ unit l = (hexL b, 1)) ∨ (∃ t, l = 92 :: t ∧ unit l = ([92, 92], 1)) ∨
    (∃ c t, isC c ∧ 32 ≤ c ∧ c ≠ 127 ∧ c ≠ 92 ∧ l = enc c ++ t ∧ unit l = (enc c, (enc c).length)) := by
  cases hd : dec l with
  | none =>
    cases l with
    | nil => exact absurd rfl h
    | cons b t => exact .inl ⟨b, t, rfl, unit_none hd⟩
  | some x =>
    obtain ⟨c, n⟩ := x
    by_cases hc : c < 32 ∨ c = 127
    · cases l with
      | nil => exact absurd rfl h
      | cons b t => exact .inl ⟨b, t, rfl, unit_ctl hd hc⟩
    · by_cases h9 : c = 92
      · subst h9
        obtain ⟨t, ht, hn⟩ := head_ascii hd (by decide)
        subst hn
        exact .inr (.inl ⟨t, ht, unit_back hd⟩)
      · obtain ⟨h1, h2, h3⟩ := dec_inv hd
        refine .inr (.inr ⟨c, l.drop n, h1, by omega, by omega, h9, h3, ?_⟩)
        rw [unit_plain hd hc h9, ← h2]
        congr 1
        rw [h2]
        conv => lhs; rw [h3]
        rw [List.take_left]
theorem unit_le (l : List UInt8) (h : l ≠ []) : (unit l).2 ≤ l.length := by
  rcases unit_cases l h with ⟨b, t, e, hu⟩ | ⟨t, e, hu⟩ | ⟨c, t, _, _, _, _, e, hu⟩
  · rw [hu, e]; simp
  · rw [hu, e]; simp
  · rw [hu, e]; simp
def shown (l : List UInt8) : List UInt8 := if h : l = [] then [] else (unit l).1 ++ shown (l.drop (unit l).2)
termination_by l.length
decreasing_by
  have := unit_le l h
  have := (unit_pos l).1
  rw [List.length_drop]
  omega
theorem shown_nil : shown [] = [] := by rw [shown]; exact dif_pos rfl
theorem shown_step {l : List UInt8} (h : l ≠ []) : shown l = (unit l).1 ++ shown (l.drop (unit l).2) := by rw [shown]; exact dif_neg h
theorem hexL_length (b : UInt8) : (hexL b).length = 4 := rfl
theorem unit_len (l : List UInt8) (h : l ≠ []) : 1 ≤ (unit l).1.length ∧ (unit l).1.length ≤ 4 := by
  rcases unit_cases l h with ⟨b, t, _, hu⟩ | ⟨t, _, hu⟩ | ⟨c, t, _, _, _, _, _, hu⟩
  · rw [hu]; show 1 ≤ 4 ∧ 4 ≤ 4; decide
  · rw [hu]; show 1 ≤ 2 ∧ 2 ≤ 4; decide
  · rw [hu]; exact enc_len c
theorem shown_length (n : Nat) : ∀ l : List UInt8, l.length ≤ n → (shown l).length ≤ 4 * l.length := by
  induction n with
  | zero =>
    intro l hl
    obtain rfl : l = [] := List.length_eq_zero_iff.mp (by omega)
    rw [shown_nil]
    simp
  | succ n ih =>
    intro l hl
    by_cases h : l = []
    · subst h; rw [shown_nil]; simp
    · have h1 := unit_len l h
      have h2 := (unit_pos l).1
      have h3 := unit_le l h
      have := ih (l.drop (unit l).2) (by rw [List.length_drop]; omega)
      rw [shown_step h, List.length_append]
      rw [List.length_drop] at this
      omega
theorem dg_range : ∀ i : Fin 16, 48 ≤ (dg i.val).toNat ∧ (dg i.val).toNat < 127 := by decide
theorem dg_inj : ∀ i j : Fin 16, dg i.val = dg j.val → i = j := by decide
theorem hexL_encs (b : UInt8) : hexL b = encs [92, 120, (dg (b.toNat / 16)).toNat, (dg (b.toNat % 16)).toNat] := by
  have hb := b.toNat_lt
  have h1 := dg_range ⟨b.toNat / 16, by omega⟩
  have h2 := dg_range ⟨b.toNat % 16, by omega⟩
  simp only at h1 h2
  simp only [encs_cons]
  rw [enc_u8 _ (by omega), enc_u8 _ (by omega)]
  rfl
theorem hexL_inj {a b : UInt8} (h : hexL a = hexL b) : a = b := by
  have ha := a.toNat_lt
  have hb := b.toNat_lt
  unfold hexL at h
  simp only [List.cons.injEq, true_and, and_true] at h
  have h1 := dg_inj ⟨a.toNat / 16, by omega⟩ ⟨b.toNat / 16, by omega⟩ h.1
  have h2 := dg_inj ⟨a.toNat % 16, by omega⟩ ⟨b.toNat % 16, by omega⟩ h.2
  simp only [Fin.mk.injEq] at h1 h2
  apply UInt8.toNat_inj.1
  omega
/-- No control. -/
def calm (c : Nat) : Prop := 32 ≤ c ∧ c ≠ 127
instance (c : Nat) : Decidable (calm c) := by unfold calm; infer_instance
theorem shown_chs (n : Nat) : ∀ l : List UInt8, l.length ≤ n → ∃ cs, chs (shown l) = some cs ∧ ∀ c ∈ cs, calm c := by
  induction n with
  | zero =>
    intro l hl
    obtain rfl : l = [] := List.length_eq_zero_iff.mp (by omega)
    exact ⟨[], by rw [shown_nil, chs_nil], by simp⟩
  | succ n ih =>
    intro l hl
    by_cases h : l = []
    · subst h; exact ⟨[], by rw [shown_nil, chs_nil], by simp⟩
    · have h2 := (unit_pos l).1
      obtain ⟨cs, i1, i2⟩ := ih (l.drop (unit l).2) (by rw [List.length_drop]; have := unit_le l h; omega)
      rw [shown_step h]
      generalize shown (l.drop (unit l).2) = X at i1
      rcases unit_cases l h with ⟨b, t, _, hu⟩ | ⟨t, _, hu⟩ | ⟨c, t, h3, h4, h5, _, _, hu⟩
      · rw [hu]
        have hb := b.toNat_lt
        have d1 := dg_range ⟨b.toNat / 16, by omega⟩
        have d2 := dg_range ⟨b.toNat % 16, by omega⟩
        simp only at d1 d2
        refine ⟨[92, 120, (dg (b.toNat / 16)).toNat, (dg (b.toNat % 16)).toNat] ++ cs, ?_, ?_⟩
        · simp only
          rw [hexL_encs, chs_encs _ (by
            intro c hc
            simp at hc
            unfold isC
            omega), i1]
          rfl
        · intro c hc
          rw [List.mem_append] at hc
          rcases hc with hc | hc
          · simp at hc; unfold calm; omega
          · exact i2 c hc
      · rw [hu]
        refine ⟨[92, 92] ++ cs, ?_, ?_⟩
        · have e : ([92, 92] : List UInt8) = encs [92, 92] := by
            simp only [encs_cons]
            rw [enc_ascii 92 (by decide)]
            rfl
          simp only
          rw [e, chs_encs _ (by intro c hc; simp at hc; unfold isC; omega), i1]
          rfl
        · intro c hc
          rw [List.mem_append] at hc
          rcases hc with hc | hc
          · simp at hc; unfold calm; omega
          · exact i2 c hc
      · rw [hu]
        refine ⟨c :: cs, ?_, ?_⟩
        · simp only
          rw [chs_cons c h3, i1]
          rfl
        · intro d hd
          rw [List.mem_cons] at hd
          rcases hd with rfl | hd
          · exact ⟨h4, h5⟩
          · exact i2 d hd
theorem enc_head {c : Nat} (h : isC c) (h9 : c ≠ 92) (X Y : List UInt8) (e : enc c ++ X = 92 :: Y) : False := by
  have h1 := dec_enc c h X
  have h2 := dec_enc 92 (by decide) Y
  rw [enc_ascii 92 (by decide)] at h2
  rw [e] at h1
  have h3 : dec (92 :: Y) = some (92, 1) := h2
  rw [h3] at h1
  simp only [Option.some.injEq, Prod.mk.injEq] at h1
  exact h9 h1.1.symm
theorem shown_inj (n : Nat) : ∀ a b : List UInt8, a.length ≤ n → shown a = shown b → a = b := by
  induction n with
  | zero =>
    intro a b ha h
    obtain rfl : a = [] := List.length_eq_zero_iff.mp (by omega)
    by_cases hb : b = []
    · exact hb.symm
    · rw [shown_nil, shown_step hb] at h
      have := (unit_len b hb).1
      have h2 := congrArg List.length h
      rw [List.length_append, List.length_nil] at h2
      omega
  | succ n ih =>
    intro a b ha h
    by_cases h0 : a = []
    · subst h0
      by_cases hb : b = []
      · exact hb.symm
      · rw [shown_nil, shown_step hb] at h
        have := (unit_len b hb).1
        have h2 := congrArg List.length h
        rw [List.length_append, List.length_nil] at h2
        omega
    · by_cases hb : b = []
      · subst hb
        rw [shown_nil, shown_step h0] at h
        have := (unit_len a h0).1
        have h2 := congrArg List.length h
        rw [List.length_append, List.length_nil] at h2
        omega
      · rw [shown_step h0, shown_step hb] at h
        rcases unit_cases a h0 with ⟨x, t, ea, hu⟩ | ⟨t, ea, hu⟩ | ⟨c, t, h3, h4, h5, h6, ea, hu⟩
        · rcases unit_cases b hb with ⟨y, s, eb, hv⟩ | ⟨s, eb, hv⟩ | ⟨d, s, g3, g4, g5, g6, eb, hv⟩
          · rw [hu, hv] at h
            simp only at h
            obtain ⟨e1, e2⟩ := List.append_inj h rfl
            rw [ea, eb] at e2
            rw [ea, eb, hexL_inj e1]
            congr 1
            exact ih t s (by rw [ea] at ha; simp at ha; omega) e2
          · rw [hu, hv] at h
            simp [hexL] at h
          · rw [hu, hv] at h
            exact (enc_head g3 g6 _ _ h.symm).elim
        · rcases unit_cases b hb with ⟨y, s, eb, hv⟩ | ⟨s, eb, hv⟩ | ⟨d, s, g3, g4, g5, g6, eb, hv⟩
          · rw [hu, hv] at h
            simp [hexL] at h
          · rw [hu, hv] at h
            simp only at h
            obtain ⟨_, e2⟩ := List.append_inj h rfl
            rw [ea, eb] at e2
            rw [ea, eb]
            congr 1
            exact ih t s (by rw [ea] at ha; simp at ha; omega) e2
          · rw [hu, hv] at h
            exact (enc_head g3 g6 _ _ h.symm).elim
        · rcases unit_cases b hb with ⟨y, s, eb, hv⟩ | ⟨s, eb, hv⟩ | ⟨d, s, g3, g4, g5, g6, eb, hv⟩
          · rw [hu, hv] at h
            exact (enc_head h3 h6 _ _ h).elim
          · rw [hu, hv] at h
            exact (enc_head h3 h6 _ _ h).elim
          · rw [hu, hv] at h
            simp only at h
            have k1 := dec_enc c h3 (shown (a.drop (enc c).length))
            have k2 := dec_enc d g3 (shown (b.drop (enc d).length))
            rw [h, k2] at k1
            simp only [Option.some.injEq, Prod.mk.injEq] at k1
            obtain ⟨rfl, _⟩ := k1
            obtain ⟨_, e2⟩ := List.append_inj h rfl
            rw [ea, eb, List.drop_left, List.drop_left] at e2
            rw [ea, eb]
            congr 1
            exact ih t s (by rw [ea, List.length_append] at ha; have := enc_len d; omega) e2
theorem shown_plain (cs : List Nat) : (∀ c ∈ cs, isC c ∧ calm c ∧ c ≠ 92) → shown (encs cs) = encs cs := by
  induction cs with
  | nil => intro _; exact shown_nil
  | cons c cs ih =>
    intro h
    obtain ⟨h1, h2, h3⟩ := h c (by simp)
    have hl := enc_len c
    have h0 : encs (c :: cs) ≠ [] := by
      rw [encs_cons]
      intro z
      have := congrArg List.length z
      rw [List.length_append, List.length_nil] at this
      omega
    rw [shown_step h0, encs_cons, unit_plain (dec_enc c h1 _) (by unfold calm at h2; omega) h3]
    simp only
    rw [List.take_left, List.drop_left, ih (fun x hx => h x (by simp [hx]))]
theorem mem_back (cs : List Nat) (h : 92 ∈ cs) : (92 : UInt8) ∈ encs cs := by
  unfold encs
  rw [List.mem_flatMap]
  exact ⟨92, h, by rw [enc_ascii 92 (by decide)]; simp⟩
end Go.Proofs.Ythhpoogocpdbjaa.Utf
end
/-! UtfF -/
section
/- The program's and the document's functions of characters are the plain words on lists. -/
namespace Go.Proofs.Ythhpoogocpdbjaa.Utf
open Go Go.RowKit Go.Proofs.Ythhpoogocpdbjaa.Px Go.Proofs.YthhpoogocpdbjaaW.PrintWords Go.Proofs.Ythhpoogocpdbjaa.Str
theorem is_f (c : Nat) : utf_is.f (c : Int) = some (decide (isC c)) := by
  unfold utf_is.f
  rw [if_pos (by omega)]
  by_cases h1 : c ≤ 1114111
  · rw [if_pos (by omega)]
    by_cases h2 : c < 55296
    · rw [if_pos (by omega), decide_eq_true (show isC c from ⟨h1, .inl h2⟩)]
    · rw [if_neg (by omega)]
      congr 1
      rw [Bool.eq_iff_iff, decide_eq_true_eq, decide_eq_true_eq]
      unfold isC
      omega
  · rw [if_neg (by omega), decide_eq_false (fun z : isC c => h1 z.1)]
theorem is_int (x : Int) (h : utf_is.f x = some true) : ∃ c : Nat, x = c ∧ isC c := by
  by_cases h0 : 0 ≤ x
  · obtain ⟨c, rfl⟩ : ∃ c : Nat, x = c := ⟨x.toNat, by omega⟩
    rw [is_f] at h
    exact ⟨c, rfl, by simpa using h⟩
  · unfold utf_is.f at h
    rw [if_neg (by omega)] at h
    cases h
theorem is_no (x : Int) (h : x < 0) : utf_is.f x = some false := by
  unfold utf_is.f
  rw [if_neg (by omega)]
theorem f63 : ∀ b : Fin 256, Go.bits .and .u8 (b.val : Int) 63 = ((b.val % 64 : Nat) : Int) := by decide +kernel
theorem f31 : ∀ b : Fin 256, Go.bits .and .u8 (b.val : Int) 31 = ((b.val % 32 : Nat) : Int) := by decide +kernel
theorem f15 : ∀ b : Fin 256, Go.bits .and .u8 (b.val : Int) 15 = ((b.val % 16 : Nat) : Int) := by decide +kernel
theorem f7 : ∀ b : Fin 256, Go.bits .and .u8 (b.val : Int) 7 = ((b.val % 8 : Nat) : Int) := by decide +kernel
theorem or_i64 (x y : Nat) (hx : x % 64 = 0) (hx1 : x < 4611686018427387904) (hy : y < 64) : Go.bits .or .i64 (x : Int) (y : Int) = ((x + y : Nat) : Int) := by
  rw [bits_join .i64 63 (by decide) (fun n h0 h1 => by rw [IntKind.wrap_i64]; omega) 6 (x : Int) (y : Int) (by omega) (by omega) (by omega) (by omega) (by omega) (by omega)]
  omega
/-- A byte of a text by its place. -/
def at_ (s : ByteArray) (i : Nat) : Nat := (s.data.toList.getD i 0).toNat
theorem at_lt (s : ByteArray) (i : Nat) : at_ s i < 256 := (s.data.toList.getD i 0).toNat_lt
theorem bt_at {s : ByteArray} {i : Nat} (h : i < s.size) : bt s (i : Int) = (at_ s i : Int) := bt_L h
theorem first_step (s : ByteArray) (k c n i : Nat) (hc : c < 2097152) (hi : i < n) (hs : i < s.size) (hi8 : i < 8) :
    utf_First.l0 (k + 1) s (c : Int) (n : Int) (i : Int) = if at_ s i / 64 = 2 then utf_First.l0 k s ((c * 64 + at_ s i % 64 : Nat) : Int) (n : Int) ((i + 1 : Nat) : Int) else some (0, 0, 40) := by
  have hb := at_lt s i
  simp only [utf_First.l0]
  rw [if_pos (by omega), if_pos (by omega), if_pos (by omega), bt_at hs]
  have e := f63 ⟨at_ s i, hb⟩
  simp only at e
  rw [e, wrap64_id (x := (c : Int) * 64) (by omega) (by omega), wrap64_id (x := ((at_ s i % 64 : Nat) : Int)) (by omega) (by omega), show (c : Int) * 64 = ((c * 64 : Nat) : Int) by omega,
    or_i64 (c * 64) (at_ s i % 64) (by omega) (by omega) (by omega), wrap64_id (by omega) (by omega)]
  by_cases h : at_ s i / 64 = 2
  · rw [if_pos (by omega), if_pos h]
    rfl
  · rw [if_neg (by omega), if_neg h]
def lst (n : Nat) : Nat := if n = 2 then 128 else if n = 3 then 2048 else if n = 4 then 65536 else 0
theorem first_end (s : ByteArray) (k c n : Nat) : utf_First.l0 (k + 1) s (c : Int) (n : Int) (n : Int) = some (if isC c ∧ lst n ≤ c then ((c : Int), (n : Int), (0 : Int)) else (0, 0, 40)) := by
  simp only [utf_First.l0]
  rw [if_neg (by omega), is_f]
  simp only [Option.bind_some, decide_eq_true_eq]
  by_cases h : isC c
  · rw [if_pos h]
    have hl : utf_least.f (n : Int) = some ((lst n : Nat) : Int) := by
      unfold utf_least.f lst
      by_cases h2 : n = 2
      · rw [if_pos (by omega), if_pos h2]; rfl
      · rw [if_neg (by omega), if_neg h2]
        by_cases h3 : n = 3
        · rw [if_pos (by omega), if_pos h3]; rfl
        · rw [if_neg (by omega), if_neg h3]
          by_cases h4 : n = 4
          · rw [if_pos (by omega), if_pos h4]; rfl
          · rw [if_neg (by omega), if_neg h4]; rfl
    rw [hl]
    simp only [Option.bind_some]
    by_cases hc : lst n ≤ c
    · rw [if_neg (by omega), if_pos ⟨h, hc⟩]
    · rw [if_pos (by omega), if_neg (fun z => hc z.2)]
  · rw [if_neg h, if_neg (fun z => h z.1)]
def decR (l : List UInt8) : Int × Int × Int := match dec l with | some (c, n) => ((c : Int), (n : Int), 0) | none => (0, 0, 40)
theorem decR_some {l : List UInt8} {c n : Nat} (h : dec l = some (c, n)) : decR l = ((c : Int), (n : Int), 0) := by unfold decR; rw [h]
theorem decR_none {l : List UInt8} (h : dec l = none) : decR l = (0, 0, 40) := by unfold decR; rw [h]
theorem first_k (s : ByteArray) (k : Nat) : utf_First.f (k + 5) s = some (decR s.data.toList) := by
  unfold utf_First.f
  rw [toList_L]
  cases hl : s.data.toList with
  | nil => rw [if_pos rfl]; rfl
  | cons a l =>
    have hsz : s.size = l.length + 1 := by rw [size_L, hl]; rfl
    have ha : at_ s 0 = a.toNat := by unfold at_; rw [hl]; rfl
    have hal := a.toNat_lt
    have hb0 : bt s 0 = (a.toNat : Int) := by
      have := bt_at (s := s) (i := 0) (by omega)
      rw [ha] at this
      exact this
    rw [if_neg (by simp), if_pos (by omega), hb0]
    unfold utf_long.f
    have gen : ∀ (n c : Nat), n ≠ 0 → (if (n : Int) = 0 then utf_First.j0 (k + 5) s (c : Int) (n : Int) true else utf_First.j0 (k + 5) s (c : Int) (n : Int) (decide ((n : Int) > (s.size : Int)))) = if n ≤ s.size then utf_First.l0 (k + 4) s (c : Int) (n : Int) ((1 : Nat) : Int) else some (0, 0, 40) := by
      intro n c h0
      rw [if_neg (by omega)]
      simp only [utf_First.j0, decide_eq_true_eq]
      by_cases h : n ≤ s.size
      · rw [if_neg (by omega), if_pos h]; rfl
      · rw [if_pos (by omega), if_neg h]
    have fl : ∀ m : Nat, m < 256 → wrap64 (m : Int) = (m : Int) := fun m hm => wrap64_id (by omega) (by omega)
    have na : nat (a :: l) = a.toNat :: nat l := rfl
    by_cases h1 : a.toNat < 128
    · rw [if_pos (by omega), fl _ hal]
      simp only [Option.bind_some]
      have g := gen 1 a.toNat (by decide)
      rw [show ((1 : Nat) : Int) = 1 from rfl] at g
      rw [g, if_pos (by omega)]
      have e := first_end s (k + 3) a.toNat 1
      rw [show ((1 : Nat) : Int) = 1 from rfl] at e
      rw [e, if_pos ⟨⟨by omega, by omega⟩, by show 0 ≤ _; omega⟩]
      unfold decR dec
      rw [na]
      simp only [decN, if_pos h1]
      rfl
    · rw [if_neg (by omega)]
      by_cases h2 : a.toNat / 32 = 6
      · have e31 := f31 ⟨a.toNat, hal⟩
        simp only at e31
        rw [if_pos (by omega), e31, fl _ (by omega)]
        simp only [Option.bind_some]
        have g := gen 2 (a.toNat % 32) (by decide)
        rw [show ((2 : Nat) : Int) = 2 from rfl] at g
        rw [g]
        cases l with
        | nil =>
          rw [if_neg (by simp at hsz; omega)]
          unfold decR dec
          rw [na]
          simp only [decN, if_neg h1, if_pos h2, nat, List.map_nil]
        | cons b l =>
          have hb : at_ s 1 = b.toNat := by unfold at_; rw [hl]; rfl
          have hbl := b.toNat_lt
          have st := first_step s (k + 3) (a.toNat % 32) 2 1 (by omega) (by decide) (by simp at hsz; omega) (by decide)
          have en := first_end s (k + 2) (a.toNat % 32 * 64 + b.toNat % 64) 2
          rw [show ((2 : Nat) : Int) = 2 from rfl] at st en
          rw [if_pos (by simp at hsz; omega), st, hb]
          unfold decR dec
          rw [na]
          simp only [decN, if_neg h1, if_pos h2, nat, List.map_cons]
          by_cases c1 : b.toNat / 64 = 2
          · rw [if_pos c1, en]
            by_cases c2 : lst 2 ≤ a.toNat % 32 * 64 + b.toNat % 64
            · rw [if_pos ⟨⟨by omega, by omega⟩, c2⟩, if_pos ⟨c1, c2⟩]
              rfl
            · rw [if_neg (fun z => c2 z.2), if_neg (fun z => c2 z.2)]
          · rw [if_neg c1, if_neg (fun z => c1 z.1)]
      · rw [if_neg (by omega)]
        by_cases h3 : a.toNat / 16 = 14
        · have e15 := f15 ⟨a.toNat, hal⟩
          simp only at e15
          rw [if_pos (by omega), e15, fl _ (by omega)]
          simp only [Option.bind_some]
          have g := gen 3 (a.toNat % 16) (by decide)
          rw [show ((3 : Nat) : Int) = 3 from rfl] at g
          rw [g]
          match l, hl, hsz, na with
          | [], hl, hsz, na =>
            rw [if_neg (by simp at hsz; omega)]
            unfold decR dec
            rw [na]
            simp only [decN, if_neg h1, if_neg h2, if_pos h3, nat, List.map_nil]
          | [b], hl, hsz, na =>
            rw [if_neg (by simp at hsz; omega)]
            unfold decR dec
            rw [na]
            simp only [decN, if_neg h1, if_neg h2, if_pos h3, nat, List.map_cons, List.map_nil]
          | b :: d :: l, hl, hsz, na =>
            have hb : at_ s 1 = b.toNat := by unfold at_; rw [hl]; rfl
            have hd : at_ s 2 = d.toNat := by unfold at_; rw [hl]; rfl
            have hbl := b.toNat_lt
            have hdl := d.toNat_lt
            simp only [List.length_cons] at hsz
            have s1 := first_step s (k + 3) (a.toNat % 16) 3 1 (by omega) (by decide) (by omega) (by decide)
            have s2 := first_step s (k + 2) (a.toNat % 16 * 64 + b.toNat % 64) 3 2 (by omega) (by decide) (by omega) (by decide)
            have en := first_end s (k + 1) ((a.toNat % 16 * 64 + b.toNat % 64) * 64 + d.toNat % 64) 3
            rw [show ((3 : Nat) : Int) = 3 from rfl] at s1 s2 en
            rw [if_pos (by omega), s1, hb]
            unfold decR dec
            rw [na]
            simp only [decN, if_neg h1, if_neg h2, if_pos h3, nat, List.map_cons]
            by_cases c1 : b.toNat / 64 = 2
            · rw [if_pos c1, show (1 + 1 : Nat) = 2 from rfl, s2, hd]
              by_cases c2 : d.toNat / 64 = 2
              · rw [if_pos c2, en]
                by_cases c3 : isC ((a.toNat % 16 * 64 + b.toNat % 64) * 64 + d.toNat % 64) ∧ lst 3 ≤ (a.toNat % 16 * 64 + b.toNat % 64) * 64 + d.toNat % 64
                · rw [if_pos c3, if_pos ⟨c1, c2, c3.2, c3.1⟩]
                  rfl
                · rw [if_neg c3, if_neg (fun z => c3 ⟨z.2.2.2, z.2.2.1⟩)]
              · rw [if_neg c2, if_neg (fun z => c2 z.2.1)]
            · rw [if_neg c1, if_neg (fun z => c1 z.1)]
        · rw [if_neg (by omega)]
          by_cases h4 : a.toNat / 8 = 30
          · have e7 := f7 ⟨a.toNat, hal⟩
            simp only at e7
            rw [if_pos (by omega), e7, fl _ (by omega)]
            simp only [Option.bind_some]
            have g := gen 4 (a.toNat % 8) (by decide)
            rw [show ((4 : Nat) : Int) = 4 from rfl] at g
            rw [g]
            match l, hl, hsz, na with
            | [], hl, hsz, na =>
              rw [if_neg (by simp at hsz; omega)]
              unfold decR dec
              rw [na]
              simp only [decN, if_neg h1, if_neg h2, if_neg h3, if_pos h4, nat, List.map_nil]
            | [b], hl, hsz, na =>
              rw [if_neg (by simp at hsz; omega)]
              unfold decR dec
              rw [na]
              simp only [decN, if_neg h1, if_neg h2, if_neg h3, if_pos h4, nat, List.map_cons, List.map_nil]
            | [b, d], hl, hsz, na =>
              rw [if_neg (by simp at hsz; omega)]
              unfold decR dec
              rw [na]
              simp only [decN, if_neg h1, if_neg h2, if_neg h3, if_pos h4, nat, List.map_cons, List.map_nil]
            | b :: d :: f :: l, hl, hsz, na =>
              have hb : at_ s 1 = b.toNat := by unfold at_; rw [hl]; rfl
              have hd : at_ s 2 = d.toNat := by unfold at_; rw [hl]; rfl
              have hf : at_ s 3 = f.toNat := by unfold at_; rw [hl]; rfl
              have hbl := b.toNat_lt
              have hdl := d.toNat_lt
              have hfl := f.toNat_lt
              simp only [List.length_cons] at hsz
              have s1 := first_step s (k + 3) (a.toNat % 8) 4 1 (by omega) (by decide) (by omega) (by decide)
              have s2 := first_step s (k + 2) (a.toNat % 8 * 64 + b.toNat % 64) 4 2 (by omega) (by decide) (by omega) (by decide)
              have s3 := first_step s (k + 1) ((a.toNat % 8 * 64 + b.toNat % 64) * 64 + d.toNat % 64) 4 3 (by omega) (by decide) (by omega) (by decide)
              have en := first_end s k (((a.toNat % 8 * 64 + b.toNat % 64) * 64 + d.toNat % 64) * 64 + f.toNat % 64) 4
              rw [show ((4 : Nat) : Int) = 4 from rfl] at s1 s2 s3 en
              rw [if_pos (by omega), s1, hb]
              unfold decR dec
              rw [na]
              simp only [decN, if_neg h1, if_neg h2, if_neg h3, if_pos h4, nat, List.map_cons]
              by_cases c1 : b.toNat / 64 = 2
              · rw [if_pos c1, show (1 + 1 : Nat) = 2 from rfl, s2, hd]
                by_cases c2 : d.toNat / 64 = 2
                · rw [if_pos c2, show (2 + 1 : Nat) = 3 from rfl, s3, hf]
                  by_cases c4 : f.toNat / 64 = 2
                  · rw [if_pos c4, en]
                    by_cases c3 : isC (((a.toNat % 8 * 64 + b.toNat % 64) * 64 + d.toNat % 64) * 64 + f.toNat % 64) ∧ lst 4 ≤ ((a.toNat % 8 * 64 + b.toNat % 64) * 64 + d.toNat % 64) * 64 + f.toNat % 64
                    · rw [if_pos c3, if_pos ⟨c1, c2, c4, c3.2, c3.1⟩]
                      rfl
                    · rw [if_neg c3, if_neg (fun z => c3 ⟨z.2.2.2.2, z.2.2.2.1⟩)]
                  · rw [if_neg c4, if_neg (fun z => c4 z.2.2.1)]
                · rw [if_neg c2, if_neg (fun z => c2 z.2.1)]
              · rw [if_neg c1, if_neg (fun z => c1 z.1)]
          · rw [if_neg (by omega)]
            simp only [Option.bind_some, if_true, utf_First.j0]
            unfold decR dec
            rw [na]
            simp only [decN, if_neg h1, if_neg h2, if_neg h3, if_neg h4]
theorem first_ev (s : ByteArray) : Ev (fun k => utf_First.f k s) (decR s.data.toList) :=
  ⟨5, fun k hk => by obtain ⟨j, rfl⟩ : ∃ j, k = j + 5 := ⟨k - 5, by omega⟩; exact first_k s j⟩
def ints (cs : List Nat) : List Int := cs.map fun c : Nat => (c : Int)
def chsR (acc : List Int) (l : List UInt8) : List Int × Int := match chs l with | some cs => (acc ++ ints cs, 0) | none => ([], 40)
theorem chsR_some {acc : List Int} {l : List UInt8} {cs : List Nat} (h : chs l = some cs) : chsR acc l = (acc ++ ints cs, 0) := by unfold chsR; rw [h]
theorem chsR_none {acc : List Int} {l : List UInt8} (h : chs l = none) : chsR acc l = ([], 40) := by unfold chsR; rw [h]
theorem chsR_step {acc : List Int} {l : List UInt8} {c n : Nat} (h : dec l = some (c, n)) : chsR acc l = chsR (acc ++ [(c : Int)]) (l.drop n) := by
  cases hr : chs (l.drop n) with
  | none => rw [chsR_none hr, chsR_none (by rw [chs_some h, hr]; rfl)]
  | some cs => rw [chsR_some hr, chsR_some (cs := c :: cs) (by rw [chs_some h, hr]; rfl)]; simp [ints]
theorem chars_l0 (n : Nat) : ∀ (s : ByteArray) (acc : List Int), s.size ≤ n → acc.length + s.size ≤ 1073741824 → Ev (fun k => utf_Chars.l0 k s acc) (chsR acc s.data.toList) := by
  induction n with
  | zero =>
    intro s acc hs _
    have h0 : s.data.toList = [] := List.length_eq_zero_iff.mp (by rw [← size_L]; omega)
    rw [h0, chsR_some chs_nil]
    refine Ev.step (f := fun _ => some _) (fun k => ?_) (Ev.now _)
    simp only [utf_Chars.l0]
    rw [if_pos (by rw [toList_L, h0])]
    simp [ints]
  | succ n ih =>
    intro s acc hs ha
    by_cases h0 : s.data.toList = []
    · rw [h0, chsR_some chs_nil]
      refine Ev.step (f := fun _ => some _) (fun k => ?_) (Ev.now _)
      simp only [utf_Chars.l0]
      rw [if_pos (by rw [toList_L, h0])]
      simp [ints]
    · cases hd : dec s.data.toList with
      | none =>
        rw [chsR_none (chs_none hd h0)]
        refine Ev.step (f := fun k => (utf_First.f k s).bind fun _ => some (([] : List Int), (40 : Int))) (fun k => ?_) (Ev.bind (first_ev s) (Ev.now _))
        simp only [utf_Chars.l0]
        rw [if_neg (by rw [toList_L]; exact h0)]
        cases hf : utf_First.f k s with
        | none => rfl
        | some x =>
          have h5 := at_rounds (g := fun k => utf_First.f k s) (fun k => utf_First.mono s k) (show k ≤ k + 5 by omega) hf
          rw [first_k, decR_none hd] at h5
          cases h5
          rfl
      | some x =>
        obtain ⟨c, m⟩ := x
        have hm := dec_le hd
        rw [← size_L] at hm
        rw [chsR_step hd]
        have h := ih (s.extract m s.size) (acc ++ [(c : Int)]) (by rw [size_L, post_L, List.length_drop, ← size_L]; omega) (by rw [size_L, post_L, List.length_drop, ← size_L, List.length_append]; simp; omega)
        rw [post_L] at h
        refine Ev.step (f := fun k => (utf_First.f k s).bind fun b => if b.2.2 = 0 then (if acc.length < 17592186044416 then (if 0 ≤ b.2.1 then (if b.2.1 ≤ (s.size : Int) then (utf_Chars.l0 k (s.extract (b.2.1 : Int).toNat s.size) (acc ++ [b.1])) else none) else none) else none) else some (([] : List Int), b.2.2)) (fun k => ?_) ?_
        · simp only [utf_Chars.l0]
          rw [if_neg (by rw [toList_L]; exact h0)]
        · refine Ev.bind (first_ev s) ?_
          rw [decR_some hd]
          refine Ev.congr (fun k => ?_) h
          simp only [if_true]
          rw [if_pos (by omega), if_pos (by omega), if_pos (by omega), Int.toNat_natCast]
theorem chars_ev (s : ByteArray) (hs : s.size ≤ 1073741824) : Ev (fun k => utf_Chars.f k s) (chsR [] s.data.toList) := by
  unfold utf_Chars.f
  exact chars_l0 s.size s [] (Nat.le_refl _) (by simpa using hs)
def ckR (l : List UInt8) : Int := match chs l with | some _ => 0 | none => 40
theorem ckR_eq (l : List UInt8) : ckR l = (chsR [] l).2 := by unfold ckR chsR; cases chs l <;> rfl
theorem ckR_zero {l : List UInt8} : ckR l = 0 ↔ ∃ cs, chs l = some cs := by
  unfold ckR
  cases chs l <;> simp
theorem check_ev (s : ByteArray) (hs : s.size ≤ 1073741824) : Ev (fun k => utf_Check.f k s) (ckR s.data.toList) := by
  unfold utf_Check.f
  refine Ev.bind (chars_ev s hs) ?_
  rw [ckR_eq]
  exact Ev.now _
theorem cont_num (c : Nat) (h : c < 2097152) : utf_Bytes.cont (c : Int) = ((128 + c % 64 : Nat) : Int) := by
  unfold utf_Bytes.cont
  have e : Go.bits BinOp.and IntKind.i64 (c : Int) 63 = ((c % 64 : Nat) : Int) := by
    rw [show (63 : Int) = 2 ^ 6 - 1 by decide, bits_mask .i64 63 (by decide) (fun n h0 h1 => by rw [IntKind.wrap_i64]; omega) 6 (by decide) (c : Int) (by omega) (by omega)]
    omega
  rw [e, show (128 : Int) = ((128 : Nat) : Int) from rfl, or_i64 128 (c % 64) (by decide) (by decide) (by omega)]
  omega
end Go.Proofs.Ythhpoogocpdbjaa.Utf
end
/-! UtfG -/
section
/- A character's bytes as the program and the document make them; the document's first character and all characters. -/
namespace Go.Proofs.Ythhpoogocpdbjaa.Utf
open Go Go.RowKit Go.Proofs.Ythhpoogocpdbjaa.Px Go.Proofs.YthhpoogocpdbjaaW.PrintWords Go.Proofs.Ythhpoogocpdbjaa.Str
theorem or_pow (i : Nat) (x y : Nat) (hx : x % 2 ^ i = 0) (hx1 : x < 4611686018427387904) (hy : y < 2 ^ i) (hy1 : y < 4611686018427387904) : Go.bits .or .i64 (x : Int) (y : Int) = ((x + y : Nat) : Int) := by
  have e : ((2 : Int) ^ i) = ((2 ^ i : Nat) : Int) := by simp
  rw [bits_join .i64 63 (by decide) (fun n h0 h1 => by rw [IntKind.wrap_i64]; omega) i (x : Int) (y : Int) (by omega) (by rw [e]; omega) (by omega) (by omega) (by rw [e]; omega) (by omega)]
  omega
theorem lead_num (i x y : Nat) (hx : x % 2 ^ i = 0) (hx1 : x < 256) (hy : y < 2 ^ i) (h : x + y < 256) : utf_Bytes.lead (x : Int) (y : Int) = ((x + y : Nat) : Int) := by
  unfold utf_Bytes.lead
  rw [or_pow i x y hx (by omega) hy (by omega)]
  omega
theorem nums_ints (l : List Nat) : strOfNums (l.map fun c : Nat => (c : Int)) = ofL (l.map UInt8.ofNat) := by
  apply ext
  rw [nums_L, ofL_L, List.map_map]
  rfl
theorem bytes_f (c : Nat) (h : isC c) : utf_Bytes.f (c : Int) = some (ofL (enc c), 0) := by
  have h' := h
  unfold isC at h'
  unfold utf_Bytes.f
  rw [is_f]
  simp only [Option.bind_some, decide_eq_true h, if_true]
  rw [if_pos (by omega)]
  congr 2
  unfold enc
  rw [← nums_ints]
  congr 1
  unfold utf_Bytes.nums encN
  by_cases h1 : c < 128
  · rw [if_neg (by omega), if_neg (by omega), if_neg (by omega), if_pos h1]
    have := lead_num 7 0 c (by decide) (by decide) (by omega) (by omega)
    rw [show ((0 : Nat) : Int) = 0 from rfl] at this
    rw [this]
    simp
  · by_cases h2 : c < 2048
    · rw [if_neg (by omega), if_neg (by omega), if_pos (by omega), if_neg h1, if_pos h2]
      rw [show Go.bits BinOp.or IntKind.i64 0 192 = ((192 : Nat) : Int) by decide +kernel, show (c : Int) / 64 = ((c / 64 : Nat) : Int) by omega, lead_num 5 192 (c / 64) (by decide) (by decide) (by omega) (by omega), cont_num c (by omega)]
      rfl
    · by_cases h3 : c < 65536
      · rw [if_neg (by omega), if_pos (by omega), if_neg h1, if_neg h2, if_pos h3]
        rw [show Go.bits BinOp.or IntKind.i64 (Go.bits BinOp.or IntKind.i64 0 32) 192 = ((224 : Nat) : Int) by decide +kernel, show (c : Int) / 64 = ((c / 64 : Nat) : Int) by omega, show ((c / 64 : Nat) : Int) / 64 = ((c / 4096 : Nat) : Int) by omega,
          lead_num 4 224 (c / 4096) (by decide) (by decide) (by omega) (by omega), cont_num c (by omega), cont_num (c / 64) (by omega)]
        rfl
      · rw [if_pos (by omega), if_neg h1, if_neg h2, if_neg h3]
        rw [show Go.bits BinOp.or IntKind.i64 (Go.bits BinOp.or IntKind.i64 (Go.bits BinOp.or IntKind.i64 0 16) 32) 192 = ((240 : Nat) : Int) by decide +kernel, show (c : Int) / 64 = ((c / 64 : Nat) : Int) by omega, show ((c / 64 : Nat) : Int) / 64 = ((c / 4096 : Nat) : Int) by omega, show ((c / 4096 : Nat) : Int) / 64 = ((c / 262144 : Nat) : Int) by omega,
          lead_num 3 240 (c / 262144) (by decide) (by decide) (by omega) (by omega), cont_num c (by omega), cont_num (c / 64) (by omega), cont_num (c / 4096) (by omega)]
        rfl
theorem is_cases (x : Int) : (∃ c : Nat, x = c ∧ isC c) ∨ utf_is.f x = some false := by
  by_cases h0 : 0 ≤ x
  · obtain ⟨c, rfl⟩ : ∃ c : Nat, x = c := ⟨x.toNat, by omega⟩
    by_cases h : isC c
    · exact .inl ⟨c, rfl, h⟩
    · exact .inr (by rw [is_f, decide_eq_false h])
  · exact .inr (is_no x (by omega))
theorem bytes_no (x : Int) (h : utf_is.f x = some false) : utf_Bytes.f x = some (⟨#[]⟩, 1) := by
  unfold utf_Bytes.f
  rw [h]
  rfl
theorem refis_f (x : Int) : gongref04_Is.f x = utf_is.f x := rfl
theorem tdiv_nat (c m : Nat) : Int.tdiv (c : Int) (m : Int) = ((c / m : Nat) : Int) := by
  rw [Int.tdiv_eq_ediv_of_nonneg (by omega)]
  simp
theorem tmod_nat (c m : Nat) : Int.tmod (c : Int) (m : Int) = ((c % m : Nat) : Int) := by
  rw [Int.tmod_eq_emod_of_nonneg (by omega)]
  simp
theorem wrap_nat (c : Nat) (h : c < 9223372036854775808) : wrap64 (c : Int) = (c : Int) := wrap64_id (by omega) (by omega)
theorem add_wrap (x y : Nat) (h : x + y < 256) : wrap64 ((x : Int) + (y : Int)) % 256 = ((x + y : Nat) : Int) := by
  rw [wrap64_id (by omega) (by omega)]
  omega
theorem made_f (c : Nat) (h : isC c) : gongref04_Made.f (c : Int) = some (ofL (enc c)) := by
  unfold isC at h
  unfold gongref04_Made.f enc
  rw [← nums_ints]
  have d1 : wrap64 (Int.tdiv (c : Int) 64) = ((c / 64 : Nat) : Int) := by rw [show (64 : Int) = ((64 : Nat) : Int) from rfl, tdiv_nat, wrap_nat _ (by omega)]
  have d2 : wrap64 (Int.tdiv (c : Int) 4096) = ((c / 4096 : Nat) : Int) := by rw [show (4096 : Int) = ((4096 : Nat) : Int) from rfl, tdiv_nat, wrap_nat _ (by omega)]
  have d3 : wrap64 (Int.tdiv (c : Int) 262144) = ((c / 262144 : Nat) : Int) := by rw [show (262144 : Int) = ((262144 : Nat) : Int) from rfl, tdiv_nat, wrap_nat _ (by omega)]
  have m : ∀ x : Nat, Int.tmod (x : Int) 64 = ((x % 64 : Nat) : Int) := fun x => tmod_nat x 64
  have a1 : ∀ (k y : Nat), k + y < 256 → wrap64 ((k : Int) + (y : Int)) % 256 = ((k + y : Nat) : Int) := add_wrap
  unfold encN
  by_cases h1 : c < 128
  · rw [if_pos (by omega), if_pos h1]
    congr 2
    simp only [List.map_cons, List.map_nil, List.cons.injEq, and_true]
    omega
  · by_cases h2 : c < 2048
    · rw [if_neg (by omega), if_pos (by omega), if_neg h1, if_pos h2, d1, m]
      have e1 := a1 192 (c / 64) (by omega)
      have e2 := a1 128 (c % 64) (by omega)
      rw [show ((192 : Nat) : Int) = 192 from rfl] at e1
      rw [show ((128 : Nat) : Int) = 128 from rfl] at e2
      rw [e1, e2]
      rfl
    · by_cases h3 : c < 65536
      · rw [if_neg (by omega), if_neg (by omega), if_pos (by omega), if_neg h1, if_neg h2, if_pos h3, d1, d2, m, m]
        have e1 := a1 224 (c / 4096) (by omega)
        have e2 := a1 128 (c % 64) (by omega)
        have e3 := a1 128 (c / 64 % 64) (by omega)
        rw [show ((224 : Nat) : Int) = 224 from rfl] at e1
        rw [show ((128 : Nat) : Int) = 128 from rfl] at e2 e3
        rw [e1, e2, e3]
        rfl
      · rw [if_neg (by omega), if_neg (by omega), if_neg (by omega), if_neg h1, if_neg h2, if_neg h3, d1, d2, d3, m, m, m]
        have e1 := a1 240 (c / 262144) (by omega)
        have e2 := a1 128 (c % 64) (by omega)
        have e3 := a1 128 (c / 64 % 64) (by omega)
        have e4 := a1 128 (c / 4096 % 64) (by omega)
        rw [show ((240 : Nat) : Int) = 240 from rfl] at e1
        rw [show ((128 : Nat) : Int) = 128 from rfl] at e2 e3 e4
        rw [e1, e2, e3, e4]
        rfl
/-- What the first n bytes would tell. -/
def gs (f : Nat → Nat) (n : Nat) : Nat :=
  if n = 1 then f 0 else if n = 2 then f 0 % 32 * 64 + f 1 % 64
  else if n = 3 then (f 0 % 16 * 64 + f 1 % 64) * 64 + f 2 % 64
  else ((f 0 % 8 * 64 + f 1 % 64) * 64 + f 2 % 64) * 64 + f 3 % 64
theorem guess_step (s : ByteArray) (k n x i : Nat) (hx : x < 2097152) (hi : i < n) (hs : i < s.size) (h8 : i < 8) :
    gongref04_guess.l0 (k + 1) s (n : Int) (x : Int) (i : Int) = gongref04_guess.l0 k s (n : Int) ((x * 64 + at_ s i % 64 : Nat) : Int) ((i + 1 : Nat) : Int) := by
  simp only [gongref04_guess.l0]
  have hb := at_lt s i
  have hm : Int.tmod ((at_ s i : Nat) : Int) 64 = ((at_ s i % 64 : Nat) : Int) := tmod_nat _ 64
  rw [if_pos (by omega), if_pos (by omega), if_pos (by omega), bt_at hs, hm, wrap_nat _ (by omega), wrap64_id (x := (x : Int) * 64) (by omega) (by omega), wrap64_id (by omega) (by omega), wrap64_id (by omega) (by omega)]
  congr 1
theorem guess_end (s : ByteArray) (k n x : Nat) : gongref04_guess.l0 (k + 1) s (n : Int) (x : Int) (n : Int) = some (x : Int) := by
  simp only [gongref04_guess.l0]
  rw [if_neg (by omega)]
theorem guess_k (s : ByteArray) (k n : Nat) (h1 : 1 ≤ n) (h4 : n ≤ 4) (hs : n ≤ s.size) : gongref04_guess.f (k + 6) s (n : Int) = some ((gs (at_ s) n : Nat) : Int) := by
  have hb0 : bt s 0 = (at_ s 0 : Int) := bt_at (s := s) (i := 0) (by omega)
  have hl := at_lt s 0
  unfold gongref04_guess.f gs
  rw [if_pos (by omega), hb0, wrap_nat _ (by omega)]
  have m : ∀ (j x : Nat), gongref04_guess.j0 (k + 6) s (j : Int) (x : Int) = gongref04_guess.l0 (k + 5) s (j : Int) (x : Int) ((1 : Nat) : Int) := fun j x => by simp only [gongref04_guess.j0]; rfl
  by_cases e1 : n = 1
  · rw [if_pos (by omega), if_pos e1]
  · rw [if_neg (by omega), if_neg e1]
    by_cases e2 : n = 2
    · subst e2
      have t : Int.tmod ((at_ s 0 : Nat) : Int) 32 = ((at_ s 0 % 32 : Nat) : Int) := tmod_nat _ 32
      rw [if_pos (show ((2 : Nat) : Int) = 2 from rfl), if_pos rfl, t, m, guess_step s _ _ _ _ (by omega) (by decide) (by omega) (by decide), show (1 + 1 : Nat) = 2 from rfl, guess_end]
    · rw [if_neg (by omega), if_neg e2]
      by_cases e3 : n = 3
      · subst e3
        have t : Int.tmod ((at_ s 0 : Nat) : Int) 16 = ((at_ s 0 % 16 : Nat) : Int) := tmod_nat _ 16
        rw [if_pos (show ((3 : Nat) : Int) = 3 from rfl), if_pos rfl, t, m, guess_step s _ _ _ _ (by omega) (by decide) (by omega) (by decide), show (1 + 1 : Nat) = 2 from rfl, guess_step s _ _ _ _ (by omega) (by decide) (by omega) (by decide), show (2 + 1 : Nat) = 3 from rfl, guess_end]
      · have e4 : n = 4 := by omega
        subst e4
        have t : Int.tmod ((at_ s 0 : Nat) : Int) 8 = ((at_ s 0 % 8 : Nat) : Int) := tmod_nat _ 8
        rw [if_neg (by decide), if_neg e3, t, m, guess_step s _ _ _ _ (by omega) (by decide) (by omega) (by decide), show (1 + 1 : Nat) = 2 from rfl, guess_step s _ _ _ _ (by omega) (by decide) (by omega) (by decide), show (2 + 1 : Nat) = 3 from rfl, guess_step s _ _ _ _ (by omega) (by decide) (by omega) (by decide), show (3 + 1 : Nat) = 4 from rfl, guess_end]
theorem guess_ev (s : ByteArray) (n : Nat) (h1 : 1 ≤ n) (h4 : n ≤ 4) (hs : n ≤ s.size) : Ev (fun k => gongref04_guess.f k s (n : Int)) ((gs (at_ s) n : Nat) : Int) :=
  ⟨6, fun k hk => by obtain ⟨j, rfl⟩ : ∃ j, k = j + 6 := ⟨k - 6, by omega⟩; exact guess_k s j n h1 h4 hs⟩
theorem gs_dec {s : ByteArray} {c n : Nat} (h : dec s.data.toList = some (c, n)) : gs (at_ s) n = c := by
  obtain ⟨h1, h2, h3⟩ := dec_inv h
  have hn : ∀ i, i < n → (encN c).getD i 0 = at_ s i := by
    intro i hi
    unfold at_
    rw [h3, ← nat_enc c h1]
    unfold nat
    rw [List.getD_eq_getElem?_getD, List.getD_eq_getElem?_getD, List.getElem?_append_left (by omega), List.getElem?_map]
    rw [List.getElem?_eq_getElem (by omega)]
    rfl
  unfold isC at h1
  rw [enc_length] at h2
  unfold encN at hn h2
  unfold gs
  by_cases q1 : c < 128
  · rw [if_pos q1] at hn h2
    simp only [List.length_cons, List.length_nil] at h2
    subst h2
    have a0 := hn 0 (by decide)
    rw [if_pos rfl, ← a0]
    rfl
  · rw [if_neg q1] at hn h2
    by_cases q2 : c < 2048
    · rw [if_pos q2] at hn h2
      simp only [List.length_cons, List.length_nil] at h2
      subst h2
      have a0 := hn 0 (by decide)
      have a1 := hn 1 (by decide)
      simp only [List.getD_cons_zero, List.getD_cons_succ] at a0 a1
      rw [if_neg (by decide), if_pos rfl, ← a0, ← a1]
      omega
    · rw [if_neg q2] at hn h2
      by_cases q3 : c < 65536
      · rw [if_pos q3] at hn h2
        simp only [List.length_cons, List.length_nil] at h2
        subst h2
        have a0 := hn 0 (by decide)
        have a1 := hn 1 (by decide)
        have a2 := hn 2 (by decide)
        simp only [List.getD_cons_zero, List.getD_cons_succ] at a0 a1 a2
        rw [if_neg (by decide), if_neg (by decide), if_pos rfl, ← a0, ← a1, ← a2]
        omega
      · rw [if_neg q3] at hn h2
        simp only [List.length_cons, List.length_nil] at h2
        subst h2
        have a0 := hn 0 (by decide)
        have a1 := hn 1 (by decide)
        have a2 := hn 2 (by decide)
        have a3 := hn 3 (by decide)
        simp only [List.getD_cons_zero, List.getD_cons_succ] at a0 a1 a2 a3
        rw [if_neg (by decide), if_neg (by decide), if_neg (by decide), ← a0, ← a1, ← a2, ← a3]
        omega
theorem try_dec (s : ByteArray) (n : Nat) (hn : n ≤ s.size) : (isC (gs (at_ s) n) ∧ enc (gs (at_ s) n) = s.data.toList.take n) ↔ dec s.data.toList = some (gs (at_ s) n, n) := by
  constructor
  · intro ⟨h1, h2⟩
    have h3 := dec_enc _ h1 (s.data.toList.drop n)
    rw [h2, List.take_append_drop, List.length_take, ← size_L] at h3
    rw [h3]
    congr 2
    omega
  · intro h
    obtain ⟨h1, h2, h3⟩ := dec_inv h
    refine ⟨h1, ?_⟩
    generalize gs (at_ s) n = c at h1 h2 h3 ⊢
    rw [h2] at h3 ⊢
    rw [h3]
    exact List.take_left.symm
theorem refFirst_l0 (s : ByteArray) (d : Nat) : ∀ n : Nat, n + d = 5 → 1 ≤ n → (∀ c m, dec s.data.toList = some (c, m) → n ≤ m) → Ev (fun k => gongref04_First.l0 k s (n : Int)) (decR s.data.toList) := by
  have fin : ∀ n : Nat, (5 ≤ n ∨ s.size < n) → (∀ c m, dec s.data.toList = some (c, m) → n ≤ m) → Ev (fun k => gongref04_First.j1 k s (n : Int) false) (decR s.data.toList) := by
    intro n hn hm
    have h : dec s.data.toList = none := by
      cases hd : dec s.data.toList with
      | none => rfl
      | some x =>
        have h1 := hm x.1 x.2 hd
        have h2 := dec_le (c := x.1) (n := x.2) hd
        rw [← size_L] at h2
        omega
    rw [decR_none h]
    refine Ev.step (f := fun _ => some _) (fun k => ?_) (Ev.now _)
    simp only [gongref04_First.j1]
    rw [if_neg (by decide)]
  induction d with
  | zero =>
    intro n hd h1 hm
    refine Ev.step (fun k => ?_) (fin n (by omega) hm)
    simp only [gongref04_First.l0]
    rw [if_neg (by omega)]
  | succ d ih =>
    intro n hd h1 hm
    by_cases hs : n ≤ s.size
    · refine Ev.step (f := fun k => gongref04_First.j1 k s (n : Int) true) (fun k => ?_) ?_
      · simp only [gongref04_First.l0]
        rw [if_pos (by omega), decide_eq_true (by omega)]
      · have go : ¬ (dec s.data.toList = some (gs (at_ s) n, n)) → Ev (fun k => gongref04_First.l0 k s (wrap64 ((n : Int) + 1))) (decR s.data.toList) := by
          intro hno
          rw [show wrap64 ((n : Int) + 1) = ((n + 1 : Nat) : Int) from by rw [wrap64_id (by omega) (by omega)]; omega]
          refine ih (n + 1) (by omega) (by omega) (fun c m hcm => ?_)
          have := hm c m hcm
          by_cases e : m = n
          · subst e
            exact absurd (by rw [gs_dec hcm]; exact hcm) hno
          · omega
        refine Ev.step (f := fun k => (gongref04_guess.f k s (n : Int)).bind fun t157 => ((gongref04_Is.f t157).bind fun t158 => (if t158 = true then ((gongref04_Made.f t157).bind fun t159 => (if 0 ≤ (n : Int) then (if (n : Int) ≤ (s.size : Int) then (if t159.toList = (s.extract 0 ((n : Int) : Int).toNat).toList then (some (t157, (n : Int), 0)) else (gongref04_First.l0 k s (wrap64 ((n : Int) + 1)))) else (none)) else (none))) else (gongref04_First.l0 k s (wrap64 ((n : Int) + 1)))))) (fun k => by simp only [gongref04_First.j1, if_true]) ?_
        refine Ev.bind (guess_ev s n h1 (by omega) hs) ?_
        have hr := refis_f ((gs (at_ s) n : Nat) : Int)
        rw [is_f] at hr
        by_cases hc : isC (gs (at_ s) n)
        · by_cases ht : enc (gs (at_ s) n) = s.data.toList.take n
          · have hd' := (try_dec s n hs).1 ⟨hc, ht⟩
            rw [decR_some hd']
            refine Ev.congr (f := fun _ => some _) (fun k => ?_) (Ev.now _)
            rw [hr, decide_eq_true hc]
            simp only [Option.bind_some, if_true]
            rw [made_f _ hc]
            simp only [Option.bind_some]
            rw [if_pos (by omega), if_pos (by omega), toList_L, toList_L, ofL_L, pre_L, Int.toNat_natCast, if_pos ht]
          · refine Ev.congr (fun k => ?_) (go (fun z => ht ((try_dec s n hs).2 z).2))
            rw [hr, decide_eq_true hc]
            simp only [Option.bind_some, if_true]
            rw [made_f _ hc]
            simp only [Option.bind_some]
            rw [if_pos (by omega), if_pos (by omega), toList_L, toList_L, ofL_L, pre_L, Int.toNat_natCast, if_neg ht]
        · refine Ev.congr (fun k => ?_) (go (fun z => hc ((try_dec s n hs).2 z).1))
          rw [hr, decide_eq_false hc]
          simp only [Option.bind_some, Bool.false_eq_true, if_false]
    · refine Ev.step (fun k => ?_) (fin n (by omega) hm)
      simp only [gongref04_First.l0]
      rw [if_pos (by omega), decide_eq_false (by omega)]
theorem refFirst_ev (s : ByteArray) : Ev (fun k => gongref04_First.f k s) (decR s.data.toList) := by
  unfold gongref04_First.f
  exact refFirst_l0 s 4 1 (by decide) (by decide) (fun c m h => (dec_le h).1)
theorem refChars_l0 (s : ByteArray) (hs : s.size ≤ 1073741824) (n : Nat) : ∀ (i : Nat) (acc : List Int), s.size - i ≤ n → i ≤ s.size → acc.length ≤ i → Ev (fun k => gongref04_Chars.l0 k s acc (i : Int)) (chsR acc (s.data.toList.drop i)) := by
  have stop : ∀ (i : Nat) (acc : List Int), ¬ i < s.size → Ev (fun k => gongref04_Chars.l0 k s acc (i : Int)) (chsR acc (s.data.toList.drop i)) := by
    intro i acc h
    rw [List.drop_of_length_le (by rw [← size_L]; omega), chsR_some chs_nil]
    refine Ev.step (f := fun _ => some _) (fun k => ?_) (Ev.now _)
    simp only [gongref04_Chars.l0]
    rw [if_neg (by omega)]
    simp [ints]
  induction n with
  | zero => intro i acc hn hi ha; exact stop i acc (by omega)
  | succ n ih =>
    intro i acc hn hi ha
    by_cases hlt : i < s.size
    · have hf := refFirst_ev (s.extract i s.size)
      rw [post_L] at hf
      refine Ev.step (f := fun k => (gongref04_First.f k (s.extract i s.size)).bind fun b => if b.2.2 = 0 then (if acc.length < 17592186044416 then gongref04_Chars.l0 k s (acc ++ [b.1]) (wrap64 ((i : Int) + b.2.1)) else none) else some (([] : List Int), b.2.2)) (fun k => ?_) (Ev.bind hf ?_)
      · simp only [gongref04_Chars.l0]
        rw [if_pos (by omega), if_pos (by omega), if_pos (by omega), Int.toNat_natCast]
      · cases hd : dec (s.data.toList.drop i) with
        | none =>
          rw [decR_none hd, chsR_none (chs_none hd (by intro z; have := congrArg List.length z; rw [List.length_drop, ← size_L] at this; simp at this; omega))]
          exact Ev.congr (f := fun _ => some _) (fun k => by rw [if_neg (show ¬ (40 : Int) = 0 by decide)]) (Ev.now _)
        | some x =>
          obtain ⟨c, m⟩ := x
          have hm := dec_le hd
          rw [List.length_drop, ← size_L] at hm
          rw [decR_some hd, chsR_step hd, List.drop_drop]
          refine Ev.congr (fun k => ?_) (ih (i + m) (acc ++ [(c : Int)]) (by omega) (by omega) (by simp; omega))
          simp only [if_true]
          rw [if_pos (by omega), wrap64_id (by omega) (by omega)]
          rfl
    · exact stop i acc hlt
theorem refChars_ev (s : ByteArray) (hs : s.size ≤ 1073741824) : Ev (fun k => gongref04_Chars.f k s) (chsR [] s.data.toList) := by
  unfold gongref04_Chars.f
  exact refChars_l0 s hs s.size 0 [] (by omega) (by omega) (by simp)
theorem refCheck_ev (s : ByteArray) (hs : s.size ≤ 1073741824) : Ev (fun k => gongref04_Check.f k s) (ckR s.data.toList) := by
  unfold gongref04_Check.f
  refine Ev.bind (refChars_ev s hs) ?_
  rw [ckR_eq]
  exact Ev.now _
theorem refBytes_f (x : Int) : gongref04_Bytes.f x = utf_Bytes.f x := by
  unfold gongref04_Bytes.f
  rw [refis_f]
  rcases is_cases x with ⟨c, rfl, h⟩ | h
  · rw [bytes_f c h, is_f, decide_eq_true h]
    simp only [Option.bind_some, if_true]
    rw [made_f c h]
    rfl
  · rw [bytes_no x h, h]
    rfl
end Go.Proofs.Ythhpoogocpdbjaa.Utf
end
/-! UtfH -/
section
/- What is shown, what is cut, and the mark, as the program and the document have them. -/
namespace Go.Proofs.Ythhpoogocpdbjaa.Utf
open Go Go.RowKit Go.Proofs.Ythhpoogocpdbjaa.Px Go.Proofs.YthhpoogocpdbjaaW.PrintWords Go.Proofs.Ythhpoogocpdbjaa.Str
theorem dig_cut : ∀ i : Fin 16, (digL.take (i.val + 1)).drop i.val = [dg i.val] := by decide
theorem dig_bt : ∀ i : Fin 16, bt utf_Shown.dig (i.val : Int) = ((dg i.val).toNat : Int) := by decide +kernel
theorem hex_f (b : UInt8) : gongref04_hex.f (b.toNat : Int) = some (ofL (hexL b)) := by
  have hb := b.toNat_lt
  unfold gongref04_hex.f
  rw [if_pos ⟨by omega, by omega⟩]
  have t1 : Int.tdiv (b.toNat : Int) 16 = ((b.toNat / 16 : Nat) : Int) := tdiv_nat _ 16
  have t2 : Int.tmod (b.toNat : Int) 16 = ((b.toNat % 16 : Nat) : Int) := tmod_nat _ 16
  have w1 : IntKind.u8.wrap ((b.toNat / 16 : Nat) : Int) = ((b.toNat / 16 : Nat) : Int) := by rw [IntKind.wrap_u8]; omega
  have w2 : IntKind.u8.wrap (((b.toNat / 16 : Nat) : Int) + 1) = ((b.toNat / 16 + 1 : Nat) : Int) := by rw [IntKind.wrap_u8]; omega
  have w3 : IntKind.u8.wrap (((b.toNat % 16 : Nat) : Int) + 1) = ((b.toNat % 16 + 1 : Nat) : Int) := by rw [IntKind.wrap_u8]; omega
  rw [t1, t2, w1, w2, w3]
  congr 1
  apply ext
  rw [app_L, app_L, extract_L, extract_L, ofL_L]
  have d1 := dig_cut ⟨b.toNat / 16, by omega⟩
  have d2 := dig_cut ⟨b.toNat % 16, by omega⟩
  simp only at d1 d2
  simp only [Int.toNat_natCast]
  show [92, 120] ++ (digL.take (b.toNat / 16 + 1)).drop (b.toNat / 16) ++ (digL.take (b.toNat % 16 + 1)).drop (b.toNat % 16) = _
  rw [d1, d2]
  rfl
theorem hex_one (s : ByteArray) (b : UInt8) (t : List UInt8) (h : s.data.toList = b :: t) : utf_Shown.hex s = ofL (hexL b) := by
  have hb := b.toNat_lt
  have h0 : bt s 0 = (b.toNat : Int) := by
    have hsz : 0 < s.size := by rw [size_L, h]; simp
    have := bt_at (s := s) (i := 0) hsz
    unfold at_ at this
    rw [h] at this
    exact this
  unfold utf_Shown.hex
  rw [h0, show (b.toNat : Int) / 16 = ((b.toNat / 16 : Nat) : Int) by omega, show (b.toNat : Int) % 16 = ((b.toNat % 16 : Nat) : Int) by omega]
  have d1 := dig_bt ⟨b.toNat / 16, by omega⟩
  have d2 := dig_bt ⟨b.toNat % 16, by omega⟩
  simp only at d1 d2
  rw [d1, d2]
  apply ext
  rw [app_L, nums_L, ofL_L]
  show [92, 120] ++ [UInt8.ofNat ((dg (b.toNat / 16)).toNat : Int).toNat, UInt8.ofNat ((dg (b.toNat % 16)).toNat : Int).toNat] = _
  rw [u8_nat, u8_nat]
  rfl
theorem one_unit (s : ByteArray) (h : s.data.toList ≠ []) : utf_Shown.one s (decR s.data.toList).1 (decR s.data.toList).2.1 (decR s.data.toList).2.2 = (ofL (unit s.data.toList).1, (((unit s.data.toList).2 : Nat) : Int)) := by
  obtain ⟨b, t, hb⟩ : ∃ b t, s.data.toList = b :: t := List.exists_cons_of_ne_nil h
  have hh := hex_one s b t hb
  have hhd : s.data.toList.headD 0 = b := by rw [hb]; rfl
  unfold utf_Shown.one
  cases hd : dec s.data.toList with
  | none =>
    rw [decR_none hd, unit_none hd, hhd]
    simp only
    rw [if_pos (.inl (by decide)), hh]
    rfl
  | some x =>
    obtain ⟨c, n⟩ := x
    rw [decR_some hd]
    simp only
    by_cases hc : c < 32 ∨ c = 127
    · rw [unit_ctl hd hc, hhd, if_pos (by omega), hh]
      rfl
    · rw [if_neg (by omega)]
      by_cases h9 : c = 92
      · subst h9
        rw [unit_back hd, if_pos (by decide)]
        rfl
      · rw [unit_plain hd hc h9, if_neg (by omega)]
        congr 1
        apply ext
        rw [pre_L, ofL_L, Int.toNat_natCast]
theorem shown_go (k : Nat) : ∀ s acc : ByteArray, s.size < k → acc.size + 4 * s.size ≤ 140737488355328 → utf_Shown.go k s acc = some (acc ++ ofL (shown s.data.toList)) := by
  induction k with
  | zero => intro s acc h _; omega
  | succ k ih =>
    intro s acc h hb
    rw [utf_Shown.go]
    by_cases h0 : s.data.toList = []
    · rw [if_pos (by rw [toList_L, h0]), h0, shown_nil]
      congr 1
      apply ext
      rw [app_L]
      simp [ofL]
    · have hp := unit_pos s.data.toList
      have hl := unit_le s.data.toList h0
      have hu := unit_len s.data.toList h0
      rw [← size_L] at hl
      rw [if_neg (by rw [toList_L]; exact h0), first_k s 35]
      simp only [Option.bind_some]
      rw [one_unit s h0]
      simp only
      rw [if_pos ⟨by omega, by omega, by rw [ofL_size]; omega⟩, Int.toNat_natCast, ih _ _ (by rw [size_L, post_L, List.length_drop, ← size_L]; omega) (by
        rw [ByteArray.size_append, ofL_size, size_L (s.extract _ _), post_L, List.length_drop, ← size_L]
        omega), post_L, shown_step h0]
      congr 1
      apply ext
      simp only [app_L, ofL_L, List.append_assoc]
theorem shown_f (s : ByteArray) (h : s.size ≤ 1073741824) : utf_Shown.f s = some (ofL (shown s.data.toList)) := by
  unfold utf_Shown.f
  rw [shown_go (s.size + 1) s ⟨#[]⟩ (by omega) (by show 0 + _ ≤ _; omega)]
  congr 1
theorem refShown_l0 (s : ByteArray) (hs : s.size ≤ 1073741824) (n : Nat) : ∀ (i : Nat) (acc : ByteArray), s.size - i ≤ n → i ≤ s.size → acc.size ≤ 4 * i → Ev (fun k => gongref04_Shown.l0 k s acc (i : Int)) (acc ++ ofL (shown (s.data.toList.drop i))) := by
  have stop : ∀ (i : Nat) (acc : ByteArray), ¬ i < s.size → Ev (fun k => gongref04_Shown.l0 k s acc (i : Int)) (acc ++ ofL (shown (s.data.toList.drop i))) := by
    intro i acc h
    rw [List.drop_of_length_le (by rw [← size_L]; omega), shown_nil]
    refine Ev.step (f := fun _ => some acc) (fun k => ?_) ?_
    · simp only [gongref04_Shown.l0]
      rw [if_neg (by omega)]
    · rw [show acc ++ ofL [] = acc from ext (by rw [app_L]; simp [ofL])]
      exact Ev.now _
  induction n with
  | zero => intro i acc hn hi ha; exact stop i acc (by omega)
  | succ n ih =>
    intro i acc hn hi ha
    by_cases hlt : i < s.size
    · have hf := refFirst_ev (s.extract i s.size)
      rw [post_L] at hf
      have hne : s.data.toList.drop i ≠ [] := by intro z; have := congrArg List.length z; rw [List.length_drop, ← size_L, List.length_nil] at this; omega
      obtain ⟨b, t, hb⟩ : ∃ b t, s.data.toList.drop i = b :: t := List.exists_cons_of_ne_nil hne
      have hbt : bt s (i : Int) = (b.toNat : Int) := by
        rw [bt_at hlt]
        unfold at_
        have : (s.data.toList.drop i)[0]? = some b := by rw [hb]; rfl
        rw [List.getElem?_drop, Nat.add_zero] at this
        rw [List.getD_eq_getElem?_getD, this]
        rfl
      have hhd : (s.data.toList.drop i).headD 0 = b := by rw [hb]; rfl
      have hp := unit_pos (s.data.toList.drop i)
      have hl := unit_le _ hne
      have hu := unit_len _ hne
      rw [List.length_drop, ← size_L] at hl
      have nxt : ∀ (n' : Int) (u : ByteArray), n' = ((unit (s.data.toList.drop i)).2 : Nat) → u = ofL (unit (s.data.toList.drop i)).1 → Ev (fun k => gongref04_Shown.l0 k s (acc ++ u) (wrap64 ((i : Int) + n'))) (acc ++ ofL (shown (s.data.toList.drop i))) := by
        intro n' u e1 e2
        subst e1
        subst e2
        have h := ih (i + (unit (s.data.toList.drop i)).2) (acc ++ ofL (unit (s.data.toList.drop i)).1) (by omega) (by omega) (by rw [ByteArray.size_append, ofL_size]; omega)
        rw [wrap64_id (by omega) (by omega), shown_step hne]
        rw [List.drop_drop]
        have e : acc ++ ofL (unit (s.data.toList.drop i)).1 ++ ofL (shown (s.data.toList.drop (i + (unit (s.data.toList.drop i)).2))) = acc ++ ofL ((unit (s.data.toList.drop i)).1 ++ shown (s.data.toList.drop (i + (unit (s.data.toList.drop i)).2))) := by
          apply ext
          simp only [app_L, ofL_L, List.append_assoc]
        rw [e] at h
        exact h
      have bad : unit (s.data.toList.drop i) = (hexL b, 1) → ∀ (c n' : Int), n' = 1 → Ev (fun k => gongref04_Shown.j2 k s acc (i : Int) c n' true) (acc ++ ofL (shown (s.data.toList.drop i))) := by
        intro hu' c n' hn'
        refine Ev.step (fun k => ?_) (nxt n' (ofL (hexL b)) (by rw [hn', hu']; rfl) (by rw [hu']))
        simp only [gongref04_Shown.j2, if_true]
        rw [if_pos (by omega), if_pos (by omega), hbt, hex_f]
        simp only [Option.bind_some]
        rw [if_pos (by rw [ofL_size, hexL_length]; omega)]
      refine Ev.step (f := fun k => (gongref04_First.f k (s.extract i s.size)).bind fun b => if b.2.2 = 0 then gongref04_Shown.j1 k s acc (i : Int) b.1 b.2.1 b.2.2 else gongref04_Shown.j1 k s acc (i : Int) b.1 1 b.2.2) (fun k => ?_) (Ev.bind hf ?_)
      · simp only [gongref04_Shown.l0]
        rw [if_pos (by omega), if_pos (by omega), if_pos (by omega), Int.toNat_natCast]
      · cases hd : dec (s.data.toList.drop i) with
        | none =>
          rw [decR_none hd]
          refine Ev.congr (f := fun k => gongref04_Shown.j1 k s acc (i : Int) 0 1 40) (fun k => by rw [if_neg (show ¬ (40 : Int) = 0 by decide)]) ?_
          refine Ev.step (fun k => ?_) (bad (by rw [unit_none hd, hhd]) 0 1 rfl)
          simp only [gongref04_Shown.j1]
          rw [if_neg (by decide)]
        | some x =>
          obtain ⟨c, m⟩ := x
          have hm := dec_le hd
          rw [List.length_drop, ← size_L] at hm
          rw [decR_some hd]
          refine Ev.congr (f := fun k => gongref04_Shown.j1 k s acc (i : Int) (c : Int) (m : Int) 0) (fun k => by simp only [if_true]) ?_
          by_cases hc : c < 32 ∨ c = 127
          · obtain ⟨_, _, hm1⟩ := head_ascii hd (by omega)
            refine Ev.step (fun k => ?_) (bad (by rw [unit_ctl hd hc, hhd]) (c : Int) (m : Int) (by omega))
            simp only [gongref04_Shown.j1, if_true]
            by_cases h3 : c < 32
            · rw [if_pos (by omega)]
            · rw [if_neg (by omega), show ((c : Int) == 127) = true from by rw [beq_iff_eq]; omega]
          · refine Ev.step (f := fun k => gongref04_Shown.j2 k s acc (i : Int) (c : Int) (m : Int) false) (fun k => ?_) ?_
            · simp only [gongref04_Shown.j1, if_true]
              rw [if_neg (by omega), show ((c : Int) == 127) = false from by rw [beq_eq_false_iff_ne]; omega]
            · by_cases h9 : c = 92
              · subst h9
                refine Ev.step (fun k => ?_) (nxt (m : Int) (⟨#[92, 92]⟩ : ByteArray) (by rw [unit_back hd]) (by rw [unit_back hd]; rfl))
                simp only [gongref04_Shown.j2, Bool.false_eq_true, if_false]
                rw [if_pos (by decide), if_pos (by omega)]
              · refine Ev.step (fun k => ?_) (nxt (m : Int) (s.extract i (i + m)) (by rw [unit_plain hd hc h9]) (by
                  rw [unit_plain hd hc h9]
                  apply ext
                  rw [extract_L, ofL_L, List.drop_take]
                  congr 1
                  omega))
                simp only [gongref04_Shown.j2, Bool.false_eq_true, if_false]
                have e3 : (s.extract i (i + m)).size = m := by rw [size_L, extract_L, List.length_drop, List.length_take, ← size_L]; omega
                rw [if_neg (by omega), if_pos (by omega), wrap64_id (by omega) (by omega), if_pos (by omega), if_pos (by omega), show ((i : Int) + (m : Int)).toNat = i + m by omega, Int.toNat_natCast, if_pos (by rw [e3]; omega)]
    · exact stop i acc hlt
theorem refShown_ev (s : ByteArray) (hs : s.size ≤ 1073741824) : Ev (fun k => gongref04_Shown.f k s) (ofL (shown s.data.toList)) := by
  have h := refShown_l0 s hs s.size 0 ⟨#[]⟩ (by omega) (by omega) (by show (0 : Nat) ≤ _; omega)
  rw [List.drop_zero, show (⟨#[]⟩ : ByteArray) ++ ofL (shown s.data.toList) = ofL (shown s.data.toList) from ext (by rw [app_L]; rfl)] at h
  unfold gongref04_Shown.f
  exact h
/-- What is cut off. -/
def cutR (l : List UInt8) (m : Int) : ByteArray × Int := if m < 0 then (⟨#[]⟩, 1) else match chs l with | some cs => (ofL (l.take (fit cs m.toNat)), 0) | none => (⟨#[]⟩, 40)
theorem cutR_neg {l : List UInt8} {m : Int} (h : m < 0) : cutR l m = (⟨#[]⟩, 1) := by unfold cutR; rw [if_pos h]
theorem cutR_none {l : List UInt8} {m : Int} (h : ¬ m < 0) (hc : chs l = none) : cutR l m = (⟨#[]⟩, 40) := by unfold cutR; rw [if_neg h, hc]
theorem cutR_some {l : List UInt8} {m : Int} {cs : List Nat} (h : ¬ m < 0) (hc : chs l = some cs) : cutR l m = (ofL (l.take (fit cs m.toNat)), 0) := by unfold cutR; rw [if_neg h, hc]
theorem fit_min (cs : List Nat) : ∀ m, fit cs (min m (encs cs).length) = fit cs m := by
  induction cs with
  | nil => intro m; rfl
  | cons c cs ih =>
    intro m
    rw [encs_cons, List.length_append, fit, fit]
    by_cases h : (enc c).length ≤ m
    · rw [if_pos h, if_pos (by omega), ← ih (m - (enc c).length)]
      congr 2
      omega
    · rw [if_neg h, if_neg (by omega)]
theorem cut_l0 (s : ByteArray) (hs : s.size ≤ 1073741824) (cs : List Nat) (hc : ∀ c ∈ cs, isC c) (hl : s.data.toList = encs cs) (m : Nat) : m ≤ s.size → Ev (fun k => utf_Cut.l0 k s (m : Int)) (ofL (s.data.toList.take (fit cs m)), 0) := by
  have hsl : (encs cs).length = s.size := by rw [← hl]; simp
  have pre : ∀ m : Nat, s.extract 0 m = ofL (s.data.toList.take m) := fun m => ext (by rw [pre_L, ofL_L])
  induction m with
  | zero =>
    intro _
    rw [fit_at cs 0 hc (.inl rfl), Nat.zero_min]
    refine Ev.step (f := fun _ => some _) (fun k => ?_) (Ev.now _)
    simp only [utf_Cut.l0]
    rw [if_neg (by omega), if_pos (by omega), if_pos (by omega), Int.toNat_natCast, pre]
  | succ m ih =>
    intro hm
    by_cases hlt : m + 1 < s.size
    · have hb : (encs cs)[m + 1]? = some (s.data.toList.getD (m + 1) 0) := by
        rw [← hl, List.getD_eq_getElem?_getD, List.getElem?_eq_getElem (by rw [← size_L]; exact hlt)]
        rfl
      by_cases hcn : at_ s (m + 1) / 64 = 2
      · have e := fit_back cs (m + 1) hc (by omega) ⟨_, hb, hcn⟩
        rw [e, Nat.add_sub_cancel]
        refine Ev.step (fun k => ?_) (ih (by omega))
        simp only [utf_Cut.l0]
        rw [if_pos (by omega), if_pos (by omega), if_pos (by omega), bt_at hlt, if_pos (by omega), wrap64_id (by omega) (by omega)]
        congr 1
        omega
      · have e := fit_at cs (m + 1) hc (.inr (.inr ⟨_, hb, hcn⟩))
        rw [e, hsl, Nat.min_eq_left (by omega)]
        refine Ev.step (f := fun _ => some _) (fun k => ?_) (Ev.now _)
        simp only [utf_Cut.l0]
        rw [if_pos (by omega), if_pos (by omega), if_pos (by omega), bt_at hlt, if_neg (by omega), if_pos (by omega), Int.toNat_natCast, pre]
    · have e := fit_at cs (m + 1) hc (.inr (.inl (by omega)))
      rw [e, hsl, Nat.min_eq_left (by omega)]
      refine Ev.step (f := fun _ => some _) (fun k => ?_) (Ev.now _)
      simp only [utf_Cut.l0]
      rw [if_pos (by omega), if_neg (by omega), if_pos (by omega), if_pos (by omega), Int.toNat_natCast, pre]
theorem cut_ev (s : ByteArray) (hs : s.size ≤ 1073741824) (m : Int) (_hm : m < 9223372036854775808) : Ev (fun k => utf_Cut.f k s m) (cutR s.data.toList m) := by
  unfold utf_Cut.f
  by_cases h0 : m < 0
  · rw [cutR_neg h0]
    exact Ev.congr (f := fun _ => some _) (fun k => by rw [if_pos h0]) (Ev.now _)
  · refine Ev.congr (f := fun k => (utf_Check.f k s).bind fun t => if t = 0 then utf_Cut.l0 k s (mn m (s.size : Int)) else some ((⟨#[]⟩ : ByteArray), t)) (fun k => by rw [if_neg h0]) (Ev.bind (check_ev s hs) ?_)
    cases hc : chs s.data.toList with
    | none =>
      rw [cutR_none h0 hc, show ckR s.data.toList = 40 by unfold ckR; rw [hc]]
      exact Ev.congr (f := fun _ => some _) (fun k => by rw [if_neg (by decide)]) (Ev.now _)
    | some cs =>
      obtain ⟨h1, h2⟩ := chs_iff.1 hc
      have e : mn m (s.size : Int) = ((min m.toNat s.size : Nat) : Int) := by unfold mn; omega
      have h3 := cut_l0 s hs cs h1 h2 (min m.toNat s.size) (by omega)
      have hsl : (encs cs).length = s.size := by rw [← h2]; simp
      rw [cutR_some h0 hc, ← fit_min, hsl, show ckR s.data.toList = 0 by unfold ckR; rw [hc], e]
      exact Ev.congr (fun k => by rw [if_pos rfl]) h3
theorem refCut_l0 (s : ByteArray) (hs : s.size ≤ 1073741824) (cs : List Nat) (hc : ∀ c ∈ cs, isC c) (hl : s.data.toList = encs cs) (M : Nat) (hM : M < 9223372036854775808) (d : Nat) : ∀ i : Nat, i + d = cs.length → (encs (cs.take i)).length ≤ M →
    Ev (fun k => gongref04_Cut.l0 k s (M : Int) (ints cs) (((encs (cs.take i)).length : Nat) : Int) (i : Int)) (ofL (s.data.toList.take ((encs (cs.take i)).length + fit (cs.drop i) (M - (encs (cs.take i)).length))), 0) := by
  have pre : ∀ m : Nat, s.extract 0 m = ofL (s.data.toList.take m) := fun m => ext (by rw [pre_L, ofL_L])
  have hle : ∀ i, (encs (cs.take i)).length ≤ s.size := by
    intro i
    rw [size_L, hl]
    conv => rhs; rw [← List.take_append_drop i cs, encs_app, List.length_append]
    omega
  have hcl : (cs.length : Nat) ≤ s.size := by
    have := chs_length (l := s.data.toList) (cs := cs) (chs_iff.2 ⟨hc, hl⟩)
    rw [size_L]
    exact this
  induction d with
  | zero =>
    intro i hi hM'
    have hl' := hle i
    rw [List.drop_of_length_le (by omega)]
    refine Ev.step (f := fun _ => some _) (fun k => ?_) (Ev.now _)
    simp only [gongref04_Cut.l0]
    rw [if_neg (by simp [ints]; omega), if_pos (by omega), if_pos (by omega), Int.toNat_natCast, pre]
    rfl
  | succ d ih =>
    intro i hi hM'
    have hl' := hle i
    have hi2 : i < cs.length := by omega
    have hd : cs.drop i = cs[i] :: cs.drop (i + 1) := List.drop_eq_getElem_cons hi2
    have ht : cs.take (i + 1) = cs.take i ++ [cs[i]] := List.take_succ_eq_append_getElem hi2
    have hr : rd (ints cs) (i : Int) = (cs[i] : Int) := by
      unfold rd ints
      rw [Int.toNat_natCast]
      simp [List.getD_eq_getElem?_getD, hi2]
    have he : encs (cs.take (i + 1)) = encs (cs.take i) ++ enc cs[i] := by rw [ht, encs_app]; simp [encs]
    have hm := made_f cs[i] (hc _ (List.getElem_mem hi2))
    have hle2 := hle (i + 1)
    rw [he, List.length_append] at hle2
    rw [hd, fit]
    by_cases hf : (enc cs[i]).length ≤ M - (encs (cs.take i)).length
    · rw [if_pos hf]
      have h := ih (i + 1) (by omega) (by rw [he, List.length_append]; omega)
      rw [he, List.length_append] at h
      refine Ev.step (fun k => ?_) (by rw [← Nat.add_assoc]; rw [← Nat.sub_sub] at h; exact h)
      simp only [gongref04_Cut.l0]
      rw [if_pos (by simp [ints]; omega), if_pos (by omega), hr, hm]
      simp only [Option.bind_some]
      rw [ofL_size, wrap64_id (x := (M : Int) - _) (by omega) (by omega), if_neg (by omega), wrap64_id (by omega) (by omega), wrap64_id (by omega) (by omega)]
      rfl
    · rw [if_neg hf]
      refine Ev.step (f := fun _ => some _) (fun k => ?_) (Ev.now _)
      simp only [gongref04_Cut.l0]
      rw [if_pos (by simp [ints]; omega), if_pos (by omega), hr, hm]
      simp only [Option.bind_some]
      rw [ofL_size, wrap64_id (x := (M : Int) - _) (by omega) (by omega), if_pos (by omega), if_pos (by omega), if_pos (by omega), Int.toNat_natCast, pre]
      rfl
theorem refCut_ev (s : ByteArray) (hs : s.size ≤ 1073741824) (m : Int) (hm : m < 9223372036854775808) : Ev (fun k => gongref04_Cut.f k s m) (cutR s.data.toList m) := by
  unfold gongref04_Cut.f
  by_cases h0 : m < 0
  · rw [cutR_neg h0]
    exact Ev.congr (f := fun _ => some _) (fun k => by rw [if_pos h0]) (Ev.now _)
  · refine Ev.congr (f := fun k => (gongref04_Chars.f k s).bind fun b => if b.2 = 0 then gongref04_Cut.l0 k s m b.1 0 0 else some ((⟨#[]⟩ : ByteArray), b.2)) (fun k => by rw [if_neg h0]) (Ev.bind (refChars_ev s hs) ?_)
    cases hc : chs s.data.toList with
    | none =>
      rw [cutR_none h0 hc, chsR_none hc]
      exact Ev.congr (f := fun _ => some _) (fun k => by rw [if_neg (show ¬ (40 : Int) = 0 by decide)]) (Ev.now _)
    | some cs =>
      obtain ⟨h1, h2⟩ := chs_iff.1 hc
      obtain ⟨M, rfl⟩ : ∃ M : Nat, m = M := ⟨m.toNat, by omega⟩
      have h3 := refCut_l0 s hs cs h1 h2 M (by omega) cs.length 0 (by omega) (by simp [encs])
      rw [cutR_some h0 hc, chsR_some hc, List.nil_append, Int.toNat_natCast]
      rw [List.take_zero, List.drop_zero, show (encs []).length = 0 from rfl, Nat.zero_add, Nat.sub_zero] at h3
      exact Ev.congr (fun k => by rw [if_pos rfl]; rfl) h3
def markR (l : List UInt8) : ByteArray × Bool := if l.take 3 = [239, 187, 191] then (ofL (l.drop 3), true) else (ofL l, false)
theorem refMark_f (s : ByteArray) : gongref04_Mark.f s = some (markR s.data.toList) := by
  unfold gongref04_Mark.f markR
  by_cases h : s.size ≥ 3
  · rw [if_pos (by omega), if_pos (by decide), if_pos (by omega), toList_L, pre_L]
    by_cases h2 : s.data.toList.take 3 = [239, 187, 191]
    · rw [if_pos h2, if_pos h2]
      congr 2
      apply ext
      rw [post_L, ofL_L]
    · rw [if_neg h2, if_neg h2, ofL_of]
  · rw [if_neg (by omega), if_neg (by
      intro z
      have := congrArg List.length z
      rw [List.length_take, ← size_L] at this
      simp at this
      omega), ofL_of]
end Go.Proofs.Ythhpoogocpdbjaa.Utf
end
/-! Pre -/
section
/- strings.HasPrefix and strings.CutPrefix over lists. -/
namespace Go.Proofs.Ythhpoogocpdbjaa.Pre
open Go Go.RowKit Go.Proofs.Ythhpoogocpdbjaa.Px Go.Proofs.YthhpoogocpdbjaaW.PrintWords Go.Proofs.Ythhpoogocpdbjaa.Str
theorem take_short {a b : List UInt8} (h : a.length < b.length) : ¬ a.take b.length = b := by
  intro z
  have := congrArg List.length z
  rw [List.length_take] at this
  omega
theorem lite_f (a b : ByteArray) : stringslite_HasPrefix.f a b = some (decide (a.data.toList.take b.data.toList.length = b.data.toList)) := by
  unfold stringslite_HasPrefix.f
  by_cases h : b.size ≤ a.size
  · rw [if_pos (by omega), if_pos (by omega), if_pos (by omega), toList_L, toList_L, pre_L, Int.toNat_natCast, ← size_L]
    congr 1
    rw [Bool.eq_iff_iff, beq_iff_eq, decide_eq_true_eq]
  · rw [if_neg (by omega), decide_eq_false (take_short (by rw [← size_L, ← size_L]; omega))]
theorem has_f (a b : ByteArray) : strings_HasPrefix.f a b = some (decide (a.data.toList.take b.data.toList.length = b.data.toList)) := by
  unfold strings_HasPrefix.f
  rw [lite_f]
  rfl
def cutR (l p : List UInt8) : ByteArray × Bool := if l.take p.length = p then (ofL (l.drop p.length), true) else (ofL l, false)
theorem cutLite_f (a b : ByteArray) : stringslite_CutPrefix.f a b = some (cutR a.data.toList b.data.toList) := by
  unfold stringslite_CutPrefix.f cutR
  rw [lite_f]
  simp only [Option.bind_some, decide_eq_true_eq]
  by_cases h : a.data.toList.take b.data.toList.length = b.data.toList
  · have hl := congrArg List.length h
    rw [List.length_take, ← size_L, ← size_L] at hl
    rw [if_pos h, if_pos h, if_pos (by omega), if_pos (by omega)]
    congr 2
    apply ext
    rw [post_L, ofL_L, Int.toNat_natCast, size_L]
  · rw [if_neg h, if_neg h, ofL_of]
theorem cut_f (a b : ByteArray) : strings_CutPrefix.f a b = some (cutR a.data.toList b.data.toList) := by
  unfold strings_CutPrefix.f
  rw [cutLite_f]
  rfl
end Go.Proofs.Ythhpoogocpdbjaa.Pre
end
/-! PureUtfReads -/
section
/- The statement UtfReads over whole numbers and lists alone. -/
namespace Go.Proofs.Ythhpoogocpdbjaa.Utf
open Go Go.RowKit Go.Proofs.Ythhpoogocpdbjaa.Px Go.Proofs.YthhpoogocpdbjaaW.PrintWords Go.Proofs.Ythhpoogocpdbjaa.Str
theorem euro : isC 8364 := by decide
theorem dec_a (l : List UInt8) (a : UInt8) (h : a.toNat < 128) : dec (a :: l) = some (a.toNat, 1) := by
  have := dec_enc a.toNat ⟨by omega, by omega⟩ l
  rw [enc_u8 a h] at this
  exact this
theorem works_f : gonglaw04_works.f = some true := by
  unfold gonglaw04_works.f
  have e := bytes_f 8364 euro
  rw [show ((8364 : Nat) : Int) = 8364 from rfl] at e
  rw [e]
  simp only [Option.bind_some]
  rw [toList_L, ofL_L, if_pos (by decide), if_true, shown_f _ (by decide)]
  simp only [Option.bind_some]
  congr 1
  rw [beq_iff_eq, toList_L, ofL_L]
  show shown [97, 0, 255] = _
  have u1 : unit [97, 0, 255] = ([97], 1) := by decide
  have u2 : unit [0, 255] = ([92, 120, 48, 48], 1) := by decide
  have u3 : unit [255] = ([92, 120, 102, 102], 1) := by decide
  rw [shown_step (by simp), u1]
  simp only [List.drop_succ_cons, List.drop_zero]
  rw [shown_step (by simp), u2]
  simp only [List.drop_succ_cons, List.drop_zero]
  rw [shown_step (by simp), u3]
  simp only [List.drop_succ_cons, List.drop_zero]
  rw [shown_nil]
  rfl
theorem mark_f (s : ByteArray) : utf_Mark.f s = some (markR s.data.toList) := by
  unfold utf_Mark.f
  rw [Pre.cut_f]
  rfl
theorem same_l0 (a b : List Int) (hl : a.length = b.length) (hb : a.length ≤ 1073741824) (d : Nat) : ∀ (i : Nat) (x : Bool), i + d = a.length → Ev (fun k => gongbook_SameInts.l0 k a b x (i : Int)) (x && decide (a.drop i = b.drop i)) := by
  induction d with
  | zero =>
    intro i x hi
    rw [List.drop_of_length_le (by omega), List.drop_of_length_le (by omega)]
    refine Ev.step (f := fun _ => some (x && decide (([] : List Int) = []))) (fun k => ?_) (Ev.now _)
    simp only [gongbook_SameInts.l0]
    cases x
    · rw [if_neg (by decide)]; rfl
    · rw [if_pos rfl, if_neg (by omega)]; rfl
  | succ d ih =>
    intro i x hi
    cases x with
    | false =>
      refine Ev.step (f := fun _ => some false) (fun k => ?_) (Ev.now _)
      simp only [gongbook_SameInts.l0]
      rw [if_neg (by decide)]
    | true =>
      have hA : i < a.length := by omega
      have hB : i < b.length := by omega
      have h := ih (i + 1) (rd a (i : Int) == rd b (i : Int)) (by omega)
      have e : (true && decide (a.drop i = b.drop i)) = ((rd a (i : Int) == rd b (i : Int)) && decide (a.drop (i + 1) = b.drop (i + 1))) := by
        rw [List.drop_eq_getElem_cons hA, List.drop_eq_getElem_cons hB]
        unfold rd
        rw [Int.toNat_natCast, List.getD_eq_getElem?_getD, List.getD_eq_getElem?_getD, List.getElem?_eq_getElem hA, List.getElem?_eq_getElem hB]
        rw [Bool.eq_iff_iff]
        simp only [Bool.true_and, Bool.and_eq_true, decide_eq_true_eq, beq_iff_eq, Option.getD_some, List.cons.injEq]
      rw [e]
      refine Ev.step (fun k => ?_) h
      simp only [gongbook_SameInts.l0]
      rw [if_pos trivial, if_pos (by omega), if_pos (by omega), if_pos (by omega), wrap64_id (by omega) (by omega)]
      rfl
theorem sameInts_ev (a b : List Int) (ha : a.length ≤ 1073741824) : Ev (fun k => gongbook_SameInts.f k a b) (decide (a = b)) := by
  unfold gongbook_SameInts.f
  by_cases h : a.length = b.length
  · have := same_l0 a b h ha a.length 0 true (by omega)
    rw [List.drop_zero, List.drop_zero, Bool.true_and] at this
    rw [show ((a.length : Int) == (b.length : Int)) = true from by rw [beq_iff_eq]; omega]
    exact this
  · rw [decide_eq_false (fun z => h (by rw [z])), show ((a.length : Int) == (b.length : Int)) = false from by rw [beq_eq_false_iff_ne]; omega]
    refine Ev.step (f := fun _ => some false) (fun k => ?_) (Ev.now _)
    simp only [gongbook_SameInts.l0]
    rw [if_neg (by decide)]
theorem spoilInts (d : Nat) : ∀ (i : Nat) (l : List Int), l.length ≤ 1073741824 → i + d = l.length → ∃ r, Ev (fun k => gongbook_SpoilInts.l0 k l (i : Int)) r := by
  induction d with
  | zero =>
    intro i l hl hi
    refine ⟨l, Ev.step (f := fun _ => some l) (fun k => ?_) (Ev.now _)⟩
    simp only [gongbook_SpoilInts.l0]
    rw [if_neg (by omega)]
  | succ d ih =>
    intro i l hl hi
    obtain ⟨r, hr⟩ := ih (i + 1) (l.set i (-77)) (by simpa using hl) (by rw [List.length_set]; omega)
    refine ⟨r, Ev.step (fun k => ?_) hr⟩
    simp only [gongbook_SpoilInts.l0]
    rw [if_pos (by omega), if_pos (by omega), wrap64_id (by omega) (by omega), Int.toNat_natCast]
    rfl
theorem chsR_length (l : List UInt8) : (chsR [] l).1.length ≤ l.length := by
  cases h : chs l with
  | none => rw [chsR_none h]; simp
  | some cs => rw [chsR_some h]; have := chs_length h; simpa [ints] using this
end Go.Proofs.Ythhpoogocpdbjaa.Utf
namespace Go.Proofs.Ythhpoogocpdbjaa.Pure
open Go Go.RowKit Go.Proofs.Ythhpoogocpdbjaa.Px Go.Proofs.YthhpoogocpdbjaaW.PrintWords Go.Proofs.Ythhpoogocpdbjaa.Str Go.Proofs.Ythhpoogocpdbjaa.Utf
theorem UtfReads : gonglaw04_UtfReads.Pure := by
  intro s hs
  apply Ev.rounds
  unfold gonglaw04_UtfReads.f
  by_cases h5 : (s.size : Int) > 1000
  · refine Ev.congr (f := fun _ => some true) (fun k => ?_) (Ev.now _)
    rw [if_pos h5, works_f]
    rfl
  · simp only [if_neg h5]
    have hb : s.size ≤ 1073741824 := by omega
    refine Ev.bind (first_ev s) ?_
    refine Ev.bind (refFirst_ev s) ?_
    refine Ev.bind (chars_ev s hb) ?_
    refine Ev.bind (refChars_ev s hb) ?_
    simp only [mark_f, refMark_f, Option.bind_some, if_true]
    have hcl := chsR_length s.data.toList
    rw [← size_L] at hcl
    refine Ev.bind (sameInts_ev _ _ (by omega)) ?_
    simp only [decide_true, if_true]
    obtain ⟨r, hr⟩ := spoilInts (chsR [] s.data.toList).1.length 0 (chsR [] s.data.toList).1 (by omega) (by omega)
    refine Ev.step (f := fun k => (gongbook_SpoilInts.f k (chsR [] s.data.toList).1).bind fun _ => (utf_Check.f k s).bind fun t201 => ((gongref04_Check.f k s).bind fun t202 => (if t201 = t202 then ((utf_Shown.f s).bind fun t203 => ((gongref04_Shown.f k s).bind fun t204 => (if t203.toList = t204.toList then ((gonglaw04_works.f).bind fun t205 => (some t205)) else (some false)))) else (some false)))) (fun k => ?_) ?_
    · simp only [gonglaw04_UtfReads.j0, beq_self_eq_true, if_true]
    · refine Ev.bind (show Ev (fun k => gongbook_SpoilInts.f k (chsR [] s.data.toList).1) r from hr) ?_
      refine Ev.bind (check_ev s hb) ?_
      refine Ev.bind (refCheck_ev s hb) ?_
      simp only [if_true, shown_f s hb, Option.bind_some]
      refine Ev.bind (refShown_ev s hb) ?_
      simp only [if_true, works_f, Option.bind_some]
      exact Ev.now _
end Go.Proofs.Ythhpoogocpdbjaa.Pure
end
/-! Bel -/
section
/- A number from 0 on, below n: the remainder. -/
namespace Go.Proofs.Ythhpoogocpdbjaa.Bel
open Go Go.RowKit Go.Proofs.Ythhpoogocpdbjaa.Px Go.Proofs.YthhpoogocpdbjaaW.PrintWords Go.Proofs.Ythhpoogocpdbjaa.Str
theorem below_f (x n : Int) (h0 : 0 < n) (h1 : n ≤ 4611686018427387904) : gongbook_Below.f x n = some (x % n) := by
  unfold gongbook_Below.f
  rw [if_neg (by omega)]
  have hr := Int.tmod_lt_of_pos x h0
  have hl : -n < Int.tmod x n := by
    have := Int.lt_tmod_of_pos x h0
    omega
  rw [wrap64_id (by omega) (by omega)]
  congr 1
  have e : (Int.tmod x n + n).tmod n = (Int.tmod x n + n) % n := Int.tmod_eq_emod_of_nonneg (by omega)
  rw [e, Int.add_emod_right]
  rcases Int.le_total 0 x with hx | hx
  · rw [Int.tmod_eq_emod_of_nonneg hx, Int.emod_emod_of_dvd _ (Int.dvd_refl n)]
  · have : Int.tmod x n = x - n * Int.tdiv x n := by have := Int.mul_tdiv_add_tmod x n; omega
    rw [this, Int.sub_mul_emod_self_left]
end Go.Proofs.Ythhpoogocpdbjaa.Bel
end
/-! PureUtfBack -/
section
/- The statement UtfBack over whole numbers and lists alone. -/
namespace Go.Proofs.Ythhpoogocpdbjaa.Utf
open Go Go.RowKit Go.Proofs.Ythhpoogocpdbjaa.Px Go.Proofs.YthhpoogocpdbjaaW.PrintWords Go.Proofs.Ythhpoogocpdbjaa.Str
/-- A character of a number. -/
def chr (x : Int) : Nat := if 55296 ≤ x % 1112064 then (x % 1112064).toNat + 2048 else (x % 1112064).toNat
theorem chr_is (x : Int) : isC (chr x) := by
  have h0 := Int.emod_nonneg x (show (1112064 : Int) ≠ 0 by decide)
  have h1 := Int.emod_lt_of_pos x (show (0 : Int) < 1112064 by decide)
  unfold chr isC
  split <;> omega
theorem char_f (x : Int) : gonglaw04_char.f x = some ((chr x : Nat) : Int) := by
  have h0 := Int.emod_nonneg x (show (1112064 : Int) ≠ 0 by decide)
  have h1 := Int.emod_lt_of_pos x (show (0 : Int) < 1112064 by decide)
  unfold gonglaw04_char.f chr
  rw [Bel.below_f x 1112064 (by decide) (by decide)]
  simp only [Option.bind_some]
  by_cases h : 55296 ≤ x % 1112064
  · rw [if_pos h, if_pos h, wrap64_id (by omega) (by omega)]
    congr 1
    omega
  · rw [if_neg h, if_neg h]
    congr 1
    omega
theorem back_l1 (s : ByteArray) (cs : List Nat) (hs : s.size ≤ 1073741824) (hc : ∀ c ∈ cs, isC c) (hl : s.data.toList = encs cs) (d : Nat) : ∀ i : Nat, i + d = cs.length → Ev (fun k => gonglaw04_UtfBack.l1 k s (ofL (encs (cs.take i))) (ints cs) ((ints cs).length : Int) (i : Int)) true := by
  have hil := (show (ints cs).length = cs.length by simp [ints])
  have hle : ∀ i, (encs (cs.take i)).length ≤ s.size := by
    intro i
    rw [size_L, hl]
    conv => rhs; rw [← List.take_append_drop i cs, encs_app, List.length_append]
    omega
  have hcl : cs.length ≤ s.size := by
    have := chs_length (l := s.data.toList) (cs := cs) (chs_iff.2 ⟨hc, hl⟩)
    rw [size_L]
    exact this
  induction d with
  | zero =>
    intro i hi
    refine Ev.step (f := fun _ => some true) (fun k => ?_) (Ev.now _)
    simp only [gonglaw04_UtfBack.l1]
    rw [if_neg (by omega), List.take_of_length_le (by omega), ← hl, ofL_of]
    simp
  | succ d ih =>
    intro i hi
    have hi2 : i < cs.length := by omega
    have hr : rd (ints cs) (i : Int) = (cs[i] : Int) := by
      unfold rd ints
      rw [Int.toNat_natCast]
      simp [List.getD_eq_getElem?_getD, hi2]
    have ht : cs.take (i + 1) = cs.take i ++ [cs[i]] := List.take_succ_eq_append_getElem hi2
    have he : encs (cs.take (i + 1)) = encs (cs.take i) ++ enc cs[i] := by rw [ht, encs_app]; simp [encs]
    have h1 := hle i
    have h2 := enc_len cs[i]
    have h := ih (i + 1) (by omega)
    rw [he] at h
    refine Ev.step (fun k => ?_) h
    simp only [gonglaw04_UtfBack.l1]
    rw [if_pos (by omega), if_pos (by omega), if_pos (by omega), hr, bytes_f _ (hc _ (List.getElem_mem hi2))]
    simp only [Option.bind_some, if_true]
    rw [if_pos (by rw [ofL_size, ofL_size]; omega), wrap64_id (by omega) (by omega)]
    congr 1
theorem back_j2 (s : ByteArray) : Ev (fun k => gonglaw04_UtfBack.j2 k s (decide ((s.size : Int) > 300))) true := by
  by_cases h3 : (s.size : Int) > 300
  · rw [decide_eq_true h3]
    refine Ev.step (f := fun _ => some true) (fun k => ?_) (Ev.now _)
    simp only [gonglaw04_UtfBack.j2, if_true]
    rw [decide_eq_true h3]
  · rw [decide_eq_false h3]
    refine Ev.step (f := fun k => (utf_Chars.f k s).bind fun bt137 => (if bt137.2 = 0 then (gonglaw04_UtfBack.l1 k s (⟨#[]⟩ : ByteArray) bt137.1 (bt137.1.length : Int) 0) else ((utf_Check.f k s).bind fun t141 => (some (t141 == 40))))) (fun k => ?_) (Ev.bind (chars_ev s (by omega)) ?_)
    · simp only [gonglaw04_UtfBack.j2]
      rw [if_neg (by decide)]
    · cases hc : chs s.data.toList with
      | none =>
        rw [chsR_none hc]
        refine Ev.congr (f := fun k => (utf_Check.f k s).bind fun t141 => some (t141 == 40)) (fun k => by rw [if_neg (show ¬ (40 : Int) = 0 by decide)]) (Ev.bind (check_ev s (by omega)) ?_)
        rw [show ckR s.data.toList = 40 by unfold ckR; rw [hc]]
        exact Ev.now _
      | some cs =>
        obtain ⟨h1, h2⟩ := chs_iff.1 hc
        rw [chsR_some hc, List.nil_append]
        have h := back_l1 s cs (by omega) h1 h2 cs.length 0 (by omega)
        refine Ev.congr (fun k => ?_) h
        simp only [if_true]
        rfl
theorem back_l0 (l : List Int) (hll : l.length ≤ 4611686018427387904) (s : ByteArray) (d : Nat) : ∀ i : Nat, i + d = min 100 l.length → Ev (fun k => gonglaw04_UtfBack.l0 k l s (ints ((l.take i).map chr)) (ofL (encs ((l.take i).map chr))) (i : Int)) true := by
  have hall : ∀ i, ∀ c ∈ (l.take i).map chr, isC c := by
    intro i c hc
    obtain ⟨x, _, rfl⟩ := List.mem_map.1 hc
    exact chr_is x
  have hlen : ∀ i, i ≤ 100 → (encs ((l.take i).map chr)).length ≤ 4 * i := by
    intro i hi
    have : ∀ cs : List Nat, (encs cs).length ≤ 4 * cs.length := by
      intro cs
      induction cs with
      | nil => simp [encs]
      | cons c cs ih => rw [encs_cons, List.length_append, List.length_cons]; have := enc_len c; omega
    have h := this ((l.take i).map chr)
    rw [List.length_map, List.length_take] at h
    omega
  induction d with
  | zero =>
    intro i hi
    have hT := hlen i (by omega)
    have hch := chs_all _ (hall i)
    have fin : Ev (fun k => gonglaw04_UtfBack.j1 k l s (ints ((l.take i).map chr)) (ofL (encs ((l.take i).map chr))) (i : Int) false) true := by
      have hce := chars_ev (ofL (encs ((l.take i).map chr))) (by rw [ofL_size]; omega)
      rw [ofL_L, chsR_some hch, List.nil_append] at hce
      have hck := check_ev (ofL (encs ((l.take i).map chr))) (by rw [ofL_size]; omega)
      rw [ofL_L, show ckR (encs ((l.take i).map chr)) = 0 by unfold ckR; rw [hch]] at hck
      refine Ev.step (f := fun k => (utf_Chars.f k (ofL (encs ((l.take i).map chr)))).bind fun bt131 => (if bt131.2 = 0 then ((utf_Check.f k (ofL (encs ((l.take i).map chr)))).bind fun t135 => (if t135 = 0 then ((gongbook_SameInts.f k bt131.1 (ints ((l.take i).map chr))).bind fun t136 => (if t136 = true then (gonglaw04_UtfBack.j2 k s (decide ((s.size : Int) > 300))) else (gonglaw04_UtfBack.j2 k s true))) else (gonglaw04_UtfBack.j2 k s true))) else (gonglaw04_UtfBack.j2 k s true))) (fun k => ?_) (Ev.bind hce ?_)
      · simp only [gonglaw04_UtfBack.j1]
        rw [if_neg (by decide)]
      · simp only [if_true]
        refine Ev.bind hck ?_
        simp only [if_true]
        refine Ev.bind (sameInts_ev _ _ (by simp [ints]; omega)) ?_
        refine Ev.congr (fun k => ?_) (back_j2 s)
        rw [decide_eq_true rfl, if_pos rfl]
    refine Ev.step (fun k => ?_) fin
    simp only [gonglaw04_UtfBack.l0]
    by_cases h : (i : Int) < (l.length : Int)
    · rw [if_pos h, decide_eq_false (by omega)]
    · rw [if_neg h]
  | succ d ih =>
    intro i hi
    have hil : i < l.length := by omega
    have ht : (l.take (i + 1)).map chr = (l.take i).map chr ++ [chr l[i]] := by rw [List.take_succ_eq_append_getElem hil, List.map_append]; rfl
    have he : encs ((l.take (i + 1)).map chr) = encs ((l.take i).map chr) ++ enc (chr l[i]) := by rw [ht, encs_app]; simp [encs]
    have hi2 : ints ((l.take (i + 1)).map chr) = ints ((l.take i).map chr) ++ [((chr l[i] : Nat) : Int)] := by rw [ht]; simp [ints]
    have hr : rd l (i : Int) = l[i] := by
      unfold rd
      rw [Int.toNat_natCast]
      simp [List.getD_eq_getElem?_getD, hil]
    have hT := hlen i (by omega)
    have h2 := enc_len (chr l[i])
    have h := ih (i + 1) (by omega)
    rw [he, hi2] at h
    refine Ev.step (f := fun k => gonglaw04_UtfBack.j1 k l s (ints ((l.take i).map chr)) (ofL (encs ((l.take i).map chr))) (i : Int) true) (fun k => ?_) ?_
    · simp only [gonglaw04_UtfBack.l0]
      rw [if_pos (by omega), decide_eq_true (by omega)]
    · refine Ev.step (fun k => ?_) h
      simp only [gonglaw04_UtfBack.j1, if_true]
      rw [if_pos (by omega), if_pos (by omega), hr, char_f]
      simp only [Option.bind_some]
      rw [bytes_f _ (chr_is _)]
      simp only [Option.bind_some, if_true]
      rw [if_neg (by
        rw [toList_L, ofL_L]
        intro z
        rw [z] at h2
        simp at h2), if_pos (by simp [ints]; omega), if_pos (by rw [ofL_size, ofL_size]; omega), wrap64_id (by omega) (by omega)]
      congr 1
end Go.Proofs.Ythhpoogocpdbjaa.Utf
namespace Go.Proofs.Ythhpoogocpdbjaa.Pure
open Go Go.RowKit Go.Proofs.Ythhpoogocpdbjaa.Px Go.Proofs.YthhpoogocpdbjaaW.PrintWords Go.Proofs.Ythhpoogocpdbjaa.Str Go.Proofs.Ythhpoogocpdbjaa.Utf
theorem UtfBack : gonglaw04_UtfBack.Pure := by
  intro l s hl hl8 _ hs
  apply Ev.rounds
  unfold gonglaw04_UtfBack.f
  rw [works_f]
  simp only [Option.bind_some, if_true]
  exact back_l0 l (by omega) s (min 100 l.length) 0 (by omega)
end Go.Proofs.Ythhpoogocpdbjaa.Pure
end
/-! LawUtfBack -/
section
-- Laid by wip/hprint.py: the kit's print of the translation, turned in places, beside contracts that this session wrote by hand; Lean checks all of it.
namespace Go.Proofs.Ythhpoogocpdbjaa.utfBack
open Go.ChangeShapes Go.WideShapes Go.ChangeAt Go.RowKit
open Go.ChangeMaps (open_string shut_string)
set_option linter.unusedVariables false
theorem own : ownKnob Try.prog.godebug = none := by kernel_rfl
theorem laidOut : laidOutB Try.prog = true := by kernel_rfl
def IsRow (k : IntKind) (w : World) (a : Option Addr) (len cap : Nat) (zs : List Int) : Prop :=
  (a = none ∧ len = 0 ∧ cap = 0 ∧ zs = []) ∨
  ∃ x, a = some x ∧ len ≤ cap ∧ cap ≤ maxLen ∧ zs.length = cap ∧ (∀ i, i < zs.length → w.cell? (x.add i) = some (.int k (zs.getD i 0))) ∧ ∀ n ∈ zs, (Lit.int k n).wf = true
set_option maxRecDepth 100000 in
theorem lifted (os : Os) (started : os.Started) (H : Type) (enc : TypeId × Value → H) :
    ReturnsInHanded {} Try.checked os 3 .any (Rows.utfBackSpec.pre6 enc Try.prog Try.f3 Rows.utfBackRow.domain false) (Rows.utfBackSpec.post enc Try.prog Try.f3 false true false false) := by
  refine returnsInHanded_of_change_sized (C := Try.checked) own started (by kernel_rfl) Try.func3
    (ChangeSpec.witness6 (enc := enc) (C := Try.checked) false ⟨#[], #[.slice none 0 0, .string ByteArray.empty], []⟩ 8 (by kernel_rfl) (by kernel_rfl) (by kernel_rfl) (by kernel_rfl)) ?_
  intro W base args ds gs before hval0 hW hcnd hsz0 _
  have hsz : (DataW.weightsEach Try.prog (Try.f3.params.toList ++ Rows.utfBackSpec.plain.varTypes Try.prog) (ds ++ gs)).all (· ≤ reachBytes) = true := hsz0
  have hval : ∀ (j : Nat) t v, Try.f3.params[j]? = some t → args[j]? = some v → Value.okWide Try.prog W .any base t v := hval0
  have hW' := hW
  obtain ⟨p, q, hA0, hV, rfl, hfz, hnd⟩ := hW
  have hA : DataW.TrodAll enc Try.prog W 0 (fun _ => true) true Try.f3.params.toList args.toList ds p := hA0
  rw [Try.params3] at hA hval hsz
  obtain ⟨v0, vs0, d0, ds0, p0, q0, hargs, rfl, rfl, h0, r0⟩ := trodAll_cons hA
  obtain ⟨v1, vs1, d1, ds1, p1, q1, rfl, rfl, rfl, h1, r1⟩ := trodAll_cons r0
  obtain ⟨rfl, rfl, rfl⟩ := trodAll_nil r1
  obtain rfl : args = #[v0, v1] := by cases args; simp_all
  obtain ⟨rfl, rfl⟩ := trodVars_none hV
  obtain ⟨a0, len0, cap0, rfl⟩ := okWide_slice Try.underlying22 (hval 0 22 v0 rfl rfl)
  have k0 := h0
  have lt0 : ∀ x ∈ p0, x.block < W.heap.size := by obtain ⟨m, hm⟩ := k0; exact DataW.trod_lt m _ _ _ hm
  obtain ⟨z0, w0⟩ : ∃ zs, IsRow .i64 W a0 len0 cap0 zs := by
    obtain ⟨fuel, hf⟩ := h0
    rcases open_ints Try.underlying22 Try.underlying3 (by kernel_rfl) hf with ⟨hcs, _⟩ | ⟨x, l, c, zs, hcs, _, hl, hm, hz, _, hcell, hwz⟩
    · simp [Value.cells] at hcs
      obtain ⟨rfl, rfl, rfl⟩ := hcs
      exact ⟨[], .inl ⟨rfl, rfl, rfl, rfl⟩⟩
    · simp [Value.cells] at hcs
      obtain ⟨rfl, rfl, rfl⟩ := hcs
      exact ⟨zs, .inr ⟨_, rfl, hl, hm, by simpa using hz, hcell, hwz⟩⟩
  have y0 : len0 * 8 ≤ 140737488351232 := Go.Proofs.YthhpoogocpdbjaaW.PrintWords.sized_ints hsz (j := 0) (t := 22) rfl rfl Try.underlying22 Try.underlying3 (by kernel_rfl) (by kernel_rfl) h0
  obtain ⟨a1, rfl, rfl, rfl, y1⟩ := open_string Try.underlying9 (hval 1 9 v1 rfl rfl) h1
  have w1 : a1.size ≤ 140737488351232 := by
    have z := sized_string hsz (j := 1) (t := 9) rfl rfl
    rw [Array.length_toList] at z
    exact z
  clear hA0 hval0 hsz0 hsz
  refine (Px.gonglaw04_UtfBack.walk Pure.UtfBack a0 len0 cap0 z0 a1 W w0 y0 w1).mono fun e W' ⟨he, bel⟩ => ?_
  subst he
  exact ⟨_, rfl, _, _, _, [], _, [], hW', trodAll_mk1 (shut_bool Try.underlying4 _), (trodAll_cons_mk (Below.trod laidOut (by kernel_rfl) (of_decide_eq_true (by kernel_rfl)) k0 bel lt0) (trodAll_cons_mk (shut_string Try.underlying9 y1) trodAll_mk0)), rfl, bel.frame _, fun h => by cases h⟩
theorem over : Rows.utfBackRow.holds Try.pinned (OpenSpec.ofChange Rows.utfBackSpec) :=
  OpenClaim.holds_of_wide 3 Try.f3 rfl rfl rfl rfl rfl rfl rfl ⟨rfl, rfl, rfl, rfl, rfl⟩ rfl rfl rfl rfl rfl (by kernel_rfl) Try.func3 (by kernel_rfl)
    (of_decide_eq_true (by kernel_rfl)) (by unfold Func.isWrapper; first | (rw [if_pos (by decide +kernel)]; kernel_rfl) | (rw [if_neg (by decide +kernel)]; exact ⟨rfl, rfl⟩))
    (fun os started H enc _ => lifted os started H enc)
theorem proved : Rows.UtfBackSaid := over
#print axioms proved
end Go.Proofs.Ythhpoogocpdbjaa.utfBack
namespace Go.Proofs.Ythhpoogocpdbjaa
/-- The row, under a short name, for the claim. -/
theorem utfBack_holds : Rows.UtfBackSaid := utfBack.proved
end Go.Proofs.Ythhpoogocpdbjaa
end
