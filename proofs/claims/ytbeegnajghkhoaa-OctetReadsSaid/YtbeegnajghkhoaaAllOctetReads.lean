import Derived.Laws.Strings
import Derived.Laws.BytesArg
import Derived.Test.YtbeegnajghkhoaaWWords
import Derived.Test.YtbeegnajghkhoaaPx1
import Derived.Test.YtbeegnajghkhoaaPx2
import Derived.Test.YtbeegnajghkhoaaPx3
import Derived.Test.YtbeegnajghkhoaaPx5
import Derived.Test.YtbeegnajghkhoaaOct
import Derived.Test.YtbeegnajghkhoaaPx6
import Derived.Test.YtbeegnajghkhoaaPx7
import Derived.Lib.Hide
import Derived.Test.YtbeegnajghkhoaaPx4
import Derived.WalkSmall
import Derived.Deep.RegionHeld3
import Derived.Deep.RegionWith
import Derived.DataReads
import Derived.DataElems
import Derived.SizedLaws
import Derived.Lib.LaidTab
import Derived.ChangeShapes
import Derived.ChangeMaps
import Derived.Test.YtbeegnajghkhoaaRows
import Derived.WalkKit
import Derived.ProofKit
import Derived.OpenShut
import Derived.ShutString
import Derived.ChangeOld
import Derived.Below
set_option linter.unusedVariables false
set_option linter.unusedSimpArgs false
/-! Str -/
section
/- Texts as lists of bytes. -/
namespace Go.Proofs.Ytbeegnajghkhoaa.Str
open Go Go.Proofs.YtbeegnajghkhoaaW.PrintWords

theorem ext {s t : ByteArray} (h : s.data.toList = t.data.toList) : s = t := by
  cases s; cases t
  simp only at h
  congr
  exact Array.ext' h
theorem ext_iff {s t : ByteArray} : s = t ↔ s.data.toList = t.data.toList := ⟨fun h => by rw [h], ext⟩
theorem size_L (s : ByteArray) : s.size = s.data.toList.length := by simp
theorem toList_L (s : ByteArray) : s.toList = s.data.toList := ByteArray.toList_eq s
theorem toList_iff {s t : ByteArray} : s.toList = t.toList ↔ s = t := by rw [toList_L, toList_L, ext_iff]
theorem app_L (s t : ByteArray) : (s ++ t).data.toList = s.data.toList ++ t.data.toList := by simp
theorem extract_L (s : ByteArray) (a b : Nat) : (s.extract a b).data.toList = (s.data.toList.take b).drop a := by
  simp [List.drop_take]
theorem pre_L (s : ByteArray) (b : Nat) : (s.extract 0 b).data.toList = s.data.toList.take b := by rw [extract_L]; simp
theorem post_L (s : ByteArray) (a : Nat) : (s.extract a s.size).data.toList = s.data.toList.drop a := by
  rw [extract_L, List.take_of_length_le (by simp)]
theorem nums_L (xs : List Int) : (strOfNums xs).data.toList = xs.map fun n => UInt8.ofNat n.toNat := strOfNums_data xs
theorem nums_size (xs : List Int) : (strOfNums xs).size = xs.length := strOfNums_size xs
def ofL (l : List UInt8) : ByteArray := ⟨l.toArray⟩
@[simp] theorem ofL_L (l : List UInt8) : (ofL l).data.toList = l := rfl
@[simp] theorem ofL_size (l : List UInt8) : (ofL l).size = l.length := by simp [size_L]
theorem ofL_of (s : ByteArray) : ofL s.data.toList = s := ext rfl
theorem lit_L (l : List UInt8) : (⟨l.toArray⟩ : ByteArray).data.toList = l := rfl
theorem empty_iff (s : ByteArray) : s = ⟨#[]⟩ ↔ s.data.toList = [] := by rw [ext_iff]
theorem bt_L {s : ByteArray} {i : Nat} (h : i < s.size) : bt s (i : Int) = ((s.data.toList.getD i 0).toNat : Int) := by
  unfold bt
  rw [dif_pos (by simpa using h)]
  simp [List.getD, h]
  rfl
theorem bt_range (s : ByteArray) (i : Int) : 0 ≤ bt s i ∧ bt s i < 256 := by
  unfold bt
  split
  · rename_i h
    have := (s[i.toNat]'h).toNat_lt
    omega
  · omega
theorem wrap64_id {x : Int} (h0 : -9223372036854775808 ≤ x) (h1 : x < 9223372036854775808) : Go.RowKit.wrap64 x = x := by
  unfold Go.RowKit.wrap64
  omega
theorem wf_u32 {x : Int} (h : (Lit.int .u32 x).wf = true) : 0 ≤ x ∧ x < 4294967296 := by
  have e1 : IntKind.u32.min = 0 := rfl
  have e2 : IntKind.u32.max = 4294967295 := rfl
  simp [Lit.wf, e1, e2] at h
  omega
theorem wf_i64 {x : Int} (h : (Lit.int .i64 x).wf = true) : -9223372036854775808 ≤ x ∧ x ≤ 9223372036854775807 := by
  have e1 : IntKind.i64.min = -9223372036854775808 := rfl
  have e2 : IntKind.i64.max = 9223372036854775807 := rfl
  simp [Lit.wf, e1, e2] at h
  omega
theorem u8_nat (b : UInt8) : UInt8.ofNat ((b.toNat : Int)).toNat = b := by
  apply UInt8.toNat_inj.1
  have := b.toNat_lt
  simp
theorem map_u8 (l : List UInt8) : (l.map fun b => (b.toNat : Int)).map (fun n => UInt8.ofNat n.toNat) = l := by
  rw [List.map_map]
  conv => rhs; rw [← List.map_id l]
  apply List.map_congr_left
  intro b _
  exact u8_nat b
end Go.Proofs.Ytbeegnajghkhoaa.Str
end
/-! OctF -/
section
/- The printed functions of numbers and texts as bytes are the plain words on lists. -/
namespace Go.Proofs.Ytbeegnajghkhoaa.OctF
open Go Go.RowKit Go.Proofs.Ytbeegnajghkhoaa.Px Go.Proofs.YtbeegnajghkhoaaW.PrintWords Go.Proofs.Ytbeegnajghkhoaa.Str

/-- A number's higher groups, and its groups. -/
def hi (n : Nat) : List UInt8 := if n = 0 then [] else hi (n / 128) ++ [UInt8.ofNat (n % 128 + 128)]
termination_by n
decreasing_by omega
def grp (n : Nat) : List UInt8 := hi (n / 128) ++ [UInt8.ofNat (n % 128)]
theorem hi_zero : hi 0 = [] := by rw [hi]; rfl
theorem hi_pos {n : Nat} (h : n ≠ 0) : hi n = hi (n / 128) ++ [UInt8.ofNat (n % 128 + 128)] := by
  rw [hi, if_neg h]
theorem toNat_ofNat {n : Nat} (h : n < 256) : (UInt8.ofNat n).toNat = n := by rw [UInt8.toNat_ofNat']; omega
theorem go_hi (f : Nat) : ∀ (n : Nat) (acc : List Int), n < 128 ^ f → (Oct.go f (n : Int) acc).map (fun n => UInt8.ofNat n.toNat) = hi n ++ acc.map (fun n => UInt8.ofNat n.toNat) := by
  induction f with
  | zero =>
    intro n acc h
    obtain rfl : n = 0 := by simpa using h
    rw [hi_zero]
    rfl
  | succ f ih =>
    intro n acc h
    by_cases h0 : n = 0
    · subst h0
      rw [show ((0 : Nat) : Int) = 0 from rfl, Oct.go_zero, hi_zero]
      rfl
    · rw [Oct.go_pos _ _ _ (by omega), show (n : Int) / 128 = ((n / 128 : Nat) : Int) by omega, ih (n / 128) _ (by rw [Nat.pow_succ] at h; omega), hi_pos h0, List.map_cons, List.append_assoc]
      congr 1
      rw [Oct.gB_eq]
      show _ = UInt8.ofNat (n % 128 + 128) :: _
      congr 2
theorem groups_ok (n : Nat) (h : n < 9223372036854775808) : octet_Groups.f (n : Int) = some (ofL (grp n), 0) := by
  unfold octet_Groups.f
  rw [if_neg (by omega), if_pos (by omega)]
  congr 2
  apply ext
  rw [nums_L, ofL_L]
  unfold Oct.groupsI
  rw [show (n : Int) / 128 = ((n / 128 : Nat) : Int) by omega, go_hi 8 (n / 128) _ (by omega)]
  unfold grp
  congr 1
theorem groups_no (n : Int) (h : n < 0) : octet_Groups.f n = some (⟨#[]⟩, 1) := by
  unfold octet_Groups.f
  rw [if_pos h]
theorem hi_length (d : Nat) : ∀ n, n < 128 ^ d → (hi n).length ≤ d := by
  induction d with
  | zero => intro n h; obtain rfl : n = 0 := by simpa using h
            rw [hi_zero]; simp
  | succ d ih =>
    intro n h
    by_cases h0 : n = 0
    · subst h0; rw [hi_zero]; simp
    · rw [hi_pos h0, List.length_append]
      have := ih (n / 128) (by rw [Nat.pow_succ] at h; omega)
      simp
      omega
theorem grp_length (n : Nat) (h : n < 9223372036854775808) : 1 ≤ (grp n).length ∧ (grp n).length ≤ 9 := by
  unfold grp
  have := hi_length 8 (n / 128) (by omega)
  simp
  omega

/-- A number's last w bytes, the highest first. -/
def be : Nat → Nat → List UInt8
  | 0, _ => []
  | w + 1, n => be w (n / 256) ++ [UInt8.ofNat n]
theorem be_length (w n : Nat) : (be w n).length = w := by
  induction w generalizing n with
  | zero => rfl
  | succ w ih => simp [be, ih]
theorem be_add (k w n : Nat) : be (k + w) n = be k (n / 256 ^ w) ++ be w n := by
  induction w generalizing n with
  | zero => simp [be]
  | succ w ih =>
    rw [← Nat.add_assoc]
    show be (k + w) (n / 256) ++ _ = _ ++ (be w (n / 256) ++ _)
    rw [ih, List.append_assoc, Nat.div_div_eq_div_mul, Nat.pow_succ, Nat.mul_comm 256]
theorem be_drop (k w n : Nat) : (be (k + w) n).drop k = be w n := by
  rw [be_add, List.drop_left' (be_length _ _)]
theorem wgo_be (f : Nat) : ∀ (n : Nat) (acc : List Int), (Oct.wgo f (n : Int) acc).map (fun n => UInt8.ofNat n.toNat) = be f n ++ acc.map (fun n => UInt8.ofNat n.toNat) := by
  induction f with
  | zero => intro n acc; rfl
  | succ f ih =>
    intro n acc
    show (Oct.wgo f ((n : Int) / 256) ((n : Int) % 256 :: acc)).map _ = _
    rw [show (n : Int) / 256 = ((n / 256 : Nat) : Int) by omega, ih, List.map_cons]
    show _ = (be f (n / 256) ++ [UInt8.ofNat n]) ++ _
    rw [List.append_assoc]
    congr 1
    show _ = UInt8.ofNat n :: _
    congr 1
    apply UInt8.toNat_inj.1
    rw [UInt8.toNat_ofNat', UInt8.toNat_ofNat']
    omega
theorem wide_ok (n w : Nat) (h0 : 1 ≤ w) (h1 : w ≤ 8) (hn : n < 9223372036854775808) : octet_Wide.f (n : Int) (w : Int) = some (if n < 256 ^ w then (ofL (be w n), 0) else (⟨#[]⟩, 1)) := by
  unfold octet_Wide.f
  rw [if_neg (by omega), if_neg (by omega), if_neg (by omega), if_pos (by omega)]
  have hr : strOfNums ((Oct.wgo 8 (n : Int) []).drop (8 - (w : Int).toNat)) = ofL (be w n) := by
    apply ext
    rw [nums_L, ofL_L, List.map_drop, wgo_be, Int.toNat_natCast]
    simp only [List.map_nil, List.append_nil]
    have := be_drop (8 - w) w n
    rw [show 8 - w + w = 8 by omega] at this
    exact this
  rw [hr]
  have e8 : (8 * (w : Int)).toNat = 8 * w := by omega
  have ep : (2 : Int) ^ (8 * w) = ((256 ^ w : Nat) : Int) := by
    rw [show (256 : Nat) = 2 ^ 8 by rfl, ← Nat.pow_mul]
    simp
  have hd : (0 < (n : Int) / 2 ^ (8 * (w : Int)).toNat) ↔ 256 ^ w ≤ n := by
    rw [e8, ep]
    have hp : 0 < 256 ^ w := Nat.pow_pos (by decide)
    rw [show (n : Int) / ((256 ^ w : Nat) : Int) = ((n / 256 ^ w : Nat) : Int) by simp]
    have := Nat.div_pos_iff (a := n) (b := 256 ^ w)
    omega
  by_cases hb : n < 256 ^ w
  · rw [if_neg (fun z => by have := hd.1 z.2; omega), if_pos hb]
  · have : w ≠ 8 := by
      rintro rfl
      have : (256 : Nat) ^ 8 = 18446744073709551616 := by decide
      omega
    rw [if_pos ⟨by omega, hd.2 (by omega)⟩, if_neg hb]
theorem text_ok (s : ByteArray) (h : s.size ≤ 1073741824) : octet_Text.f s = some (ofL (grp s.size ++ s.data.toList)) := by
  unfold octet_Text.f
  rw [groups_ok s.size (by omega)]
  simp only [Option.bind_some]
  have := grp_length s.size (by omega)
  rw [ofL_size, if_pos (by omega)]
  congr 1

/-! ### Reading groups -/
/-- The number whose groups stand at the beginning; how many bytes these are; why not. -/
def pg (most : Int) : Nat → Nat → List UInt8 → Nat → Int × Int × Int
  | 0, _, _, _ => (0, 0, 3)
  | _ + 1, _, [], _ => (0, 0, 10)
  | f + 1, n, b :: r, i => if i = 0 ∧ b.toNat = 128 then (0, 0, 3) else if ((n * 128 + b.toNat % 128 : Nat) : Int) > most then (0, 0, 2) else if b.toNat < 128 then (((n * 128 + b.toNat % 128 : Nat) : Int), ((i + 1 : Nat) : Int), 0) else pg most f (n * 128 + b.toNat % 128) r (i + 1)
theorem andNot_u8 : ∀ b : Fin 256, Go.bits .andNot .u8 (b.val : Int) 128 = ((b.val % 128 : Nat) : Int) := by decide +kernel
theorem join7 (n b : Nat) (hn : n < 72057594037927936) (hb : b < 256) : Go.bits .or .i64 (wrap64 ((n : Int) * 128)) (wrap64 (Go.bits .andNot .u8 (b : Int) 128)) = ((n * 128 + b % 128 : Nat) : Int) := by
  have h := andNot_u8 ⟨b, hb⟩
  simp only at h
  rw [h, wrap64_id (by omega) (by omega), wrap64_id (by omega) (by omega)]
  rw [bits_join .i64 63 (by decide) (fun n h0 h1 => by rw [IntKind.wrap_i64]; omega) 7 ((n : Int) * 128) ((b % 128 : Nat) : Int) (by omega) (by omega) (by omega) (by omega) (by omega) (by omega)]
  omega
theorem groups_l0 (s : ByteArray) (most : Int) (d : Nat) : ∀ (k i n : Nat), i + d = 9 → i ≤ s.size → n < 128 ^ i → 2 * d + 1 ≤ k → octet_groups.l0 k s most (n : Int) (i : Int) = some (pg most d n (s.data.toList.drop i) i) := by
  induction d with
  | zero =>
    intro k i n hi hle hn hk
    obtain ⟨k, rfl⟩ : ∃ m, k = m + 1 := ⟨k - 1, by omega⟩
    simp only [octet_groups.l0]
    rw [if_neg (by omega)]
    rfl
  | succ d ih =>
    intro k i n hi hle hn hk
    obtain ⟨k, rfl⟩ : ∃ m, k = m + 2 := ⟨k - 2, by omega⟩
    have hn8 : n < 72057594037927936 := Nat.lt_of_lt_of_le hn (Nat.le_trans (Nat.pow_le_pow_right (by decide) (show i ≤ 8 by omega)) (by decide))
    simp only [octet_groups.l0]
    rw [if_pos (by omega)]
    by_cases he : i = s.size
    · rw [if_pos (by omega), List.drop_of_length_le (by simp; omega)]
      rfl
    · have hlt : i < s.size := by omega
      have hd : s.data.toList.drop i = s.data.toList[i]'(by simpa using hlt) :: s.data.toList.drop (i + 1) := List.drop_eq_getElem_cons (by simpa using hlt)
      have hb : bt s (i : Int) = ((s.data.toList[i]'(by simpa using hlt)).toNat : Int) := by
        rw [bt_L hlt]
        simp [List.getD, hlt]
      generalize s.data.toList[i]'(by simpa using hlt) = b at hd hb
      have hbl := b.toNat_lt
      rw [if_neg (by omega), if_pos (by omega), if_pos (by omega), hd, hb, join7 n b.toNat hn8 (by omega), wrap64_id (by omega) (by omega)]
      have hn' : n * 128 + b.toNat % 128 < 128 ^ (i + 1) := by rw [Nat.pow_succ]; omega
      have hj : ∀ q : Bool, q = decide (i = 0 ∧ b.toNat = 128) → octet_groups.j1 (k + 1) s most ((n * 128 + b.toNat % 128 : Nat) : Int) ((i : Int) + 1) (b.toNat : Int) q = some (pg most (d + 1) n (b :: s.data.toList.drop (i + 1)) i) := by
        intro q hq
        subst hq
        simp only [octet_groups.j1, pg, decide_eq_true_eq]
        by_cases c1 : i = 0 ∧ b.toNat = 128
        · rw [if_pos c1, if_pos c1]
        · rw [if_neg c1, if_neg c1]
          by_cases c2 : ((n * 128 + b.toNat % 128 : Nat) : Int) > most
          · rw [if_pos c2, if_pos c2]
          · rw [if_neg c2, if_neg c2]
            by_cases c3 : b.toNat < 128
            · rw [if_pos (by omega), if_pos c3]
              rfl
            · rw [if_neg (by omega), if_neg c3]
              exact ih k (i + 1) _ (by omega) (by omega) hn' (by omega)
      by_cases h0 : i = 0
      · rw [if_pos (by omega)]
        refine hj _ ?_
        by_cases h128 : b.toNat = 128
        · rw [decide_eq_true ⟨h0, h128⟩, h128]
          decide
        · rw [decide_eq_false (fun z => h128 z.2), beq_eq_false_iff_ne]
          omega
      · rw [if_neg (by omega)]
        exact hj _ (decide_eq_false (fun z => h0 z.1)).symm
def rdG (most : Int) (l : List UInt8) : Int × Int × Int := pg most 9 0 l 0
theorem groups_read (s : ByteArray) (most : Int) (k : Nat) (hk : 19 ≤ k) : octet_groups.f k s most = some (rdG most s.data.toList) := by
  unfold octet_groups.f
  have := groups_l0 s most 9 k 0 0 rfl (Nat.zero_le _) (by decide) (by omega)
  simpa [rdG] using this
/-- What is told of it: within the bytes; nothing beside an error. -/
theorem pg_long (most : Int) (f : Nat) : ∀ (n : Nat) (l : List UInt8) (i : Nat), 0 ≤ (pg most f n l i).2.1 ∧ (pg most f n l i).2.1 ≤ ((i + l.length : Nat) : Int) ∧ ((pg most f n l i).2.2 ≠ 0 → (pg most f n l i).1 = 0 ∧ (pg most f n l i).2.1 = 0) ∧ 0 ≤ (pg most f n l i).1 ∧ 0 ≤ (pg most f n l i).2.2 := by
  induction f with
  | zero => intro n l i; simp [pg]; omega
  | succ f ih =>
    intro n l i
    cases l with
    | nil => simp [pg]
    | cons b r =>
      simp only [pg]
      split
      · simp; omega
      · split
        · simp; omega
        · split
          · simp only [List.length_cons]
            refine ⟨by omega, by omega, fun h => absurd rfl h, by omega, by omega⟩
          · have := ih (n * 128 + b.toNat % 128) r (i + 1)
            simp only [List.length_cons]
            refine ⟨this.1, by omega, this.2.2.1, this.2.2.2⟩
theorem rdG_long (most : Int) (l : List UInt8) : 0 ≤ (rdG most l).2.1 ∧ (rdG most l).2.1 ≤ (l.length : Int) ∧ ((rdG most l).2.2 ≠ 0 → (rdG most l).1 = 0 ∧ (rdG most l).2.1 = 0) ∧ 0 ≤ (rdG most l).1 ∧ 0 ≤ (rdG most l).2.2 := by
  have := pg_long most 9 0 l 0
  simpa [rdG] using this
theorem rdG_most (most : Int) (f : Nat) : ∀ (n : Nat) (l : List UInt8) (i : Nat), 0 ≤ most → n < 128 ^ (9 - f) → f ≤ 9 → (pg most f n l i).1 ≤ most ∧ (pg most f n l i).1 < 9223372036854775808 := by
  induction f with
  | zero => intro n l i h _ _; simp [pg]; omega
  | succ f ih =>
    intro n l i h hn hf
    have hn' : n * 128 + 127 < 9223372036854775808 := by
      have : 128 ^ (9 - (f + 1)) * 128 ≤ 9223372036854775808 := by
        rw [← Nat.pow_succ]
        exact Nat.le_trans (Nat.pow_le_pow_right (by decide) (show 9 - (f + 1) + 1 ≤ 9 by omega)) (by decide)
      omega
    cases l with
    | nil => simp [pg]; omega
    | cons b r =>
      simp only [pg]
      split
      · simp; omega
      · split
        · simp; omega
        · split
          · simp only; omega
          · refine ih _ r _ h ?_ (by omega)
            rw [show 9 - f = 9 - (f + 1) + 1 by omega, Nat.pow_succ]
            omega

/-- The reader's calls. -/
theorem rGroups (s : ByteArray) (c most : Int) (k : Nat) (hk : 19 ≤ k) :
    octet_Reader_Groups.f k s c most = some (if c = 0 then ((rdG most s.data.toList).1, ofL (s.data.toList.drop (rdG most s.data.toList).2.1.toNat), (rdG most s.data.toList).2.2) else (0, s, c)) := by
  unfold octet_Reader_Groups.f
  by_cases hc : c = 0
  · rw [if_pos hc, if_pos hc, groups_read s most k hk]
    simp only [Option.bind_some]
    unfold octet_Reader_Refuse.f
    rw [if_pos hc]
    simp only [Option.bind_some]
    have h := rdG_long most s.data.toList
    rw [if_pos h.1, if_pos (by have := h.2.1; simpa using this)]
    congr 3
    apply ext
    rw [post_L, ofL_L]
  · rw [if_neg hc, if_neg hc]
theorem rBytes (s : ByteArray) (c n : Int) : octet_Reader_Bytes.f s c n = some (if c = 0 then (if n < 0 then (⟨#[]⟩, s, 1) else if n > (s.size : Int) then (⟨#[]⟩, s, 10) else (ofL (s.data.toList.take n.toNat), ofL (s.data.toList.drop n.toNat), c)) else (⟨#[]⟩, s, c)) := by
  unfold octet_Reader_Bytes.f octet_Reader_Refuse.f
  by_cases hc : c = 0
  · simp only [if_pos hc, Option.bind_some]
    by_cases h1 : n < 0
    · rw [if_pos h1, if_pos h1]
    · rw [if_neg h1, if_neg h1]
      by_cases h2 : n > (s.size : Int)
      · rw [if_pos h2, if_pos h2]
      · rw [if_neg h2, if_neg h2, if_pos (by omega), if_pos (by omega)]
        congr 2
        · apply ext
          rw [pre_L, ofL_L]
        · congr 1
          apply ext
          rw [post_L, ofL_L]
  · rw [if_neg hc, if_neg hc]
end Go.Proofs.Ytbeegnajghkhoaa.OctF
end
/-! OctR -/
section
/- The document's numbers and texts as bytes are the plain words on lists, too. -/
namespace Go.Proofs.Ytbeegnajghkhoaa.OctF
open Go Go.RowKit Go.Proofs.Ytbeegnajghkhoaa.Px Go.Proofs.YtbeegnajghkhoaaW.PrintWords Go.Proofs.Ytbeegnajghkhoaa.Str

theorem ref_Grouped_l0 (n : Nat) : ∀ (s : ByteArray), n < 9223372036854775808 → s.size + (hi (n / 128)).length ≤ 1000 → Ev (fun k => gongref01_Grouped.l0 k (n : Int) s) (ofL (hi (n / 128) ++ s.data.toList)) := by
  induction n using Nat.strongRecOn with
  | _ n ih =>
    intro s hn hs
    by_cases h : n < 128
    · refine Ev.step (f := fun _ => some s) (fun k => ?_) ?_
      · simp only [gongref01_Grouped.l0]
        rw [if_neg (by omega)]
      · rw [show n / 128 = 0 by omega, hi_zero, List.nil_append, ofL_of]
        exact Ev.now _
    · have h1 : n / 128 ≠ 0 := by omega
      have e1 : wrap64 (Int.tdiv (n : Int) 128) = ((n / 128 : Nat) : Int) := by
        rw [Int.tdiv_eq_ediv_of_nonneg (by omega), wrap64_id (by omega) (by omega)]
        omega
      have e2 : strOfNums [wrap64 (Int.tmod ((n / 128 : Nat) : Int) 128 + 128) % 256] = ofL [UInt8.ofNat (n / 128 % 128 + 128)] := by
        apply ext
        rw [nums_L, ofL_L, Int.tmod_eq_emod_of_nonneg (by omega), wrap64_id (by omega) (by omega)]
        simp only [List.map_cons, List.map_nil, List.cons.injEq, and_true]
        congr 1
        omega
      rw [hi_pos h1] at hs ⊢
      rw [List.length_append] at hs
      simp only [List.length_cons, List.length_nil] at hs
      have hsz : (ofL [UInt8.ofNat (n / 128 % 128 + 128)]).size + s.size ≤ 9223372036854775807 := by simp; omega
      have hsum : hi (n / 128 / 128) ++ [UInt8.ofNat (n / 128 % 128 + 128)] ++ s.data.toList = hi (n / 128 / 128) ++ (ofL [UInt8.ofNat (n / 128 % 128 + 128)] ++ s).data.toList := by simp
      rw [hsum]
      have hsz2 : (ofL [UInt8.ofNat (n / 128 % 128 + 128)] ++ s).size = 1 + s.size := by rw [size_L, app_L]; simp; omega
      refine Ev.step (f := fun k => gongref01_Grouped.l0 k ((n / 128 : Nat) : Int) (ofL [UInt8.ofNat (n / 128 % 128 + 128)] ++ s)) (fun k => ?_) (ih (n / 128) (by omega) _ (by omega) (by omega))
      simp only [gongref01_Grouped.l0]
      rw [if_pos (by omega), e1]
      simp only [Option.bind_some]
      rw [e2, if_pos hsz]
theorem ref_Grouped_ev (n : Nat) (hn : n < 9223372036854775808) : Ev (fun k => gongref01_Grouped.f k (n : Int)) (ofL (grp n)) := by
  have e : strOfNums [Int.tmod (n : Int) 128 % 256] = ofL [UInt8.ofNat (n % 128)] := by
    apply ext
    rw [nums_L, ofL_L, Int.tmod_eq_emod_of_nonneg (by omega)]
    simp only [List.map_cons, List.map_nil, List.cons.injEq, and_true]
    congr 1
    omega
  unfold gongref01_Grouped.f
  rw [e]
  have hl := hi_length 8 (n / 128) (by omega)
  exact ref_Grouped_l0 n (ofL [UInt8.ofNat (n % 128)]) hn (by simp; omega)
theorem ref_Padded_l0 (w : Int) (d : Nat) : ∀ (n : Nat) (s : ByteArray) (i : Int), w = i + (d : Int) → w ≤ 1000 → 0 ≤ i → n < 9223372036854775808 → s.size ≤ 2000 - d →
    Ev (fun k => gongref01_Padded.l0 k (n : Int) w s i) (ofL (be d n ++ s.data.toList)) := by
  induction d with
  | zero =>
    intro n s i hi hw h0 hn hs
    refine Ev.step (f := fun _ => some s) (fun k => ?_) ?_
    · simp only [gongref01_Padded.l0]
      rw [if_neg (by omega)]
    · simp only [be, List.nil_append]
      rw [ofL_of]
      exact Ev.now _
  | succ d ih =>
    intro n s i hi hw h0 hn hs
    have e1 : Int.tmod (n : Int) 256 = (n % 256 : Nat) := by rw [Int.tmod_eq_emod_of_nonneg (by omega)]; omega
    have e2 : Int.tdiv (n : Int) 256 = (n / 256 : Nat) := by rw [Int.tdiv_eq_ediv_of_nonneg (by omega)]; omega
    have e3 : (strOfNums [Int.tmod (n : Int) 256 % 256]) = ofL [UInt8.ofNat n] := by
      apply ext
      rw [nums_L, ofL_L, e1]
      simp only [List.map_cons, List.map_nil, List.cons.injEq, and_true]
      apply UInt8.toNat_inj.1
      rw [UInt8.toNat_ofNat', UInt8.toNat_ofNat']
      omega
    have hsz : (ofL [UInt8.ofNat n]).size + s.size ≤ 9223372036854775807 := by simp; omega
    have hsum : be (d + 1) n ++ s.data.toList = be d (n / 256) ++ (ofL [UInt8.ofNat n] ++ s).data.toList := by simp [be]
    rw [hsum]
    refine Ev.step (f := fun k => gongref01_Padded.l0 k ((n / 256 : Nat) : Int) w (ofL [UInt8.ofNat n] ++ s) (i + 1)) (fun k => ?_) (ih (n / 256) _ (i + 1) (by omega) hw (by omega) (by omega) ?_)
    · simp only [gongref01_Padded.l0]
      rw [if_pos (by omega)]
      simp only [Option.bind_some]
      rw [e3, if_pos hsz, e2, wrap64_id (by omega) (by omega), wrap64_id (by omega) (by omega)]
    · have : (ofL [UInt8.ofNat n] ++ s).size = 1 + s.size := by rw [size_L, app_L]; simp; omega
      omega
theorem ref_Padded_ev (n : Nat) (w : Nat) (hn : n < 9223372036854775808) (hw : w ≤ 1000) : Ev (fun k => gongref01_Padded.f k (n : Int) (w : Int)) (ofL (be w n)) := by
  have := ref_Padded_l0 (w : Int) w n ⟨#[]⟩ 0 (by omega) (by omega) (by omega) hn (by simp [size_L])
  simp only [List.append_nil] at this
  exact this

/-- The number of bytes, the highest first. -/
def val (l : List UInt8) : Nat := l.foldl (fun n b => n * 256 + b.toNat) 0
theorem val_snoc (l : List UInt8) (b : UInt8) : val (l ++ [b]) = val l * 256 + b.toNat := by simp [val, List.foldl_append]
theorem snoc_ind {α : Type} {Q : List α → Prop} (h0 : Q []) (h1 : ∀ l b, Q l → Q (l ++ [b])) (l : List α) : Q l := by
  rw [← List.reverse_reverse l]
  induction l.reverse with
  | nil => exact h0
  | cons b r ih => rw [List.reverse_cons]; exact h1 _ _ ih
theorem val_lt (l : List UInt8) : val l < 256 ^ l.length := by
  refine snoc_ind (Q := fun l => val l < 256 ^ l.length) (by decide) (fun l b ih => ?_) l
  rw [val_snoc, List.length_append, List.length_singleton, Nat.pow_succ]
  have := b.toNat_lt
  omega
theorem val_be (w n : Nat) : val (be w n) = n % 256 ^ w := by
  induction w generalizing n with
  | zero => simp [be, val, Nat.mod_one]
  | succ w ih =>
    have e : (UInt8.ofNat n).toNat = n % 256 := UInt8.toNat_ofNat'
    rw [be, val_snoc, ih, e, Nat.pow_succ, Nat.mul_comm (256 ^ w) 256, Nat.mod_mul]
    omega
theorem val_cons (b : UInt8) (l : List UInt8) : val (b :: l) = b.toNat * 256 ^ l.length + val l := by
  refine snoc_ind (Q := fun l => val (b :: l) = b.toNat * 256 ^ l.length + val l) (by simp [val]) (fun l c ih => ?_) l
  rw [← List.cons_append, val_snoc, ih, val_snoc, List.length_append, List.length_singleton, Nat.pow_succ, Nat.add_mul, Nat.mul_assoc]
  omega
/-- Too great a number: eight bytes, the first of them from 128 on. -/
theorem val_big (l : List UInt8) (h : l.length ≤ 8) : val l < 9223372036854775808 ↔ ¬ (l.length = 8 ∧ 128 ≤ (l.getD 0 0).toNat) := by
  by_cases h8 : l.length = 8
  · match l, h8 with
    | b :: r, h8 =>
      have hr : r.length = 7 := by simpa using h8
      have hv := val_lt r
      have h7 : (256 : Nat) ^ 7 = 72057594037927936 := by decide
      rw [hr, h7] at hv
      rw [val_cons, hr, h7, h8]
      have := b.toNat_lt
      simp only [List.getD_cons_zero, true_and]
      omega
  · have hv := val_lt l
    have : (256 : Nat) ^ l.length ≤ 256 ^ 7 := Nat.pow_le_pow_right (by decide) (by omega)
    have h7 : (256 : Nat) ^ 7 = 72057594037927936 := by decide
    constructor
    · intro _ z; exact h8 z.1
    · intro _; omega
theorem val_take (l : List UInt8) (i : Nat) (h : i < l.length) : val (l.take (i + 1)) = val (l.take i) * 256 + (l.getD i 0).toNat := by
  rw [List.take_succ_eq_append_getElem h, val_snoc]
  simp [List.getD, h]
theorem val_take_le (l : List UInt8) (i : Nat) : val (l.take i) ≤ val l := by
  have key : ∀ d i, i + d = l.length → val (l.take i) ≤ val l := by
    intro d
    induction d with
    | zero => intro i hi; rw [List.take_of_length_le (by omega)]; exact Nat.le_refl _
    | succ d ih =>
      intro i hi
      have := ih (i + 1) (by omega)
      rw [val_take l i (by omega)] at this
      omega
  by_cases h : i ≤ l.length
  · exact key (l.length - i) i (by omega)
  · rw [List.take_of_length_le (by omega)]; exact Nat.le_refl _
theorem ref_Number_l0 (s : ByteArray) (hv : val s.data.toList < 9223372036854775808) (hs : s.size ≤ 1000) (d : Nat) : ∀ i : Nat, i + d = s.size → Ev (fun k => gongref01_Number.l0 k s (val (s.data.toList.take i) : Int) (i : Int)) ((val s.data.toList : Int), true) := by
  induction d with
  | zero =>
    intro i hi
    refine Ev.step (f := fun _ => some ((val s.data.toList : Int), true)) (fun k => ?_) (Ev.now _)
    simp only [gongref01_Number.l0]
    rw [if_neg (by omega), List.take_of_length_le (by simp; omega)]
  | succ d ih =>
    intro i hi
    have hlt : i < s.size := by omega
    have ht := val_take s.data.toList i (by simpa using hlt)
    have hle := val_take_le s.data.toList (i + 1)
    have hb := (s.data.toList.getD i 0).toNat_lt
    refine Ev.step (f := fun k => gongref01_Number.l0 k s (val (s.data.toList.take (i + 1)) : Int) ((i + 1 : Nat) : Int)) (fun k => ?_) (ih (i + 1) (by omega))
    simp only [gongref01_Number.l0]
    rw [if_pos (by omega), if_pos (by omega), bt_L hlt, wrap64_id (x := ((s.data.toList.getD i 0).toNat : Int)) (by omega) (by omega), wrap64_id (x := (val (s.data.toList.take i) : Int) * 256) (by omega) (by omega), wrap64_id (by omega) (by omega), wrap64_id (by omega) (by omega), ht]
    rfl
theorem ref_Number_ev (s : ByteArray) (hs : s.size ≤ 8) : Ev (fun k => gongref01_Number.f k s) (if val s.data.toList < 9223372036854775808 then ((val s.data.toList : Int), true) else (0, false)) := by
  have hbig := val_big s.data.toList (by simpa using hs)
  have hj : Ev (fun k => gongref01_Number.j0 k s (decide ¬ (val s.data.toList < 9223372036854775808))) (if val s.data.toList < 9223372036854775808 then ((val s.data.toList : Int), true) else (0, false)) := by
    by_cases h : val s.data.toList < 9223372036854775808
    · rw [if_pos h, decide_eq_false (fun z => z h)]
      have := ref_Number_l0 s h (by omega) s.size 0 (by omega)
      refine Ev.step (f := fun k => gongref01_Number.l0 k s 0 0) (fun k => ?_) (by simpa [val] using this)
      simp only [gongref01_Number.j0]
      rw [if_neg (by decide)]
    · rw [if_neg h, decide_eq_true h]
      refine Ev.step (f := fun _ => some (0, false)) (fun k => ?_) (Ev.now _)
      simp only [gongref01_Number.j0]
      rw [if_pos trivial]
  refine Ev.congr (fun k => ?_) hj
  unfold gongref01_Number.f
  rw [← size_L] at hbig
  by_cases h8 : s.size = 8
  · rw [if_pos (by omega), if_pos (by omega), show (0 : Int) = ((0 : Nat) : Int) from rfl, bt_L (by omega)]
    congr 1
    apply decide_eq_decide.2
    rw [hbig]
    omega
  · rw [if_neg (by omega)]
    congr 1
    symm
    rw [decide_eq_false_iff_not]
    intro z
    exact z (hbig.2 (fun y => h8 y.1))
theorem be_first (w n : Nat) (h : 1 ≤ w) : ∃ r, be w n = UInt8.ofNat (n / 256 ^ (w - 1)) :: r := by
  have := be_add 1 (w - 1) n
  rw [show 1 + (w - 1) = w by omega] at this
  exact ⟨be (w - 1) n, by rw [this]; rfl⟩
end Go.Proofs.Ytbeegnajghkhoaa.OctF
end
/-! OctP -/
section
/- The document's reader: its groups, bytes and texts as rdG tells them. -/
namespace Go.Proofs.Ytbeegnajghkhoaa.OctF
open Go Go.RowKit Go.Proofs.Ytbeegnajghkhoaa.Px Go.Proofs.YtbeegnajghkhoaaW.PrintWords Go.Proofs.Ytbeegnajghkhoaa.Str
def pout (S : ByteArray) (A : Nat) (g : Int × Int × Int) : Int × ByteArray × Int × Int := (g.1, S, if g.2.2 = 0 then (A : Int) + g.2.1 else (A : Int), g.2.2)
theorem ref_groups_l0 (S : ByteArray) (hS : S.size ≤ 1073741824) (most : Int) (A : Nat) (d : Nat) : ∀ (i n : Nat), i + d = 9 → A + i ≤ S.size → n < 128 ^ i → Ev (fun k => gongref01_Reader_Groups.l0 k most (n : Int) (i : Int) S (A : Int) 0) (pout S A (pg most d n (S.data.toList.drop (A + i)) i)) := by
  induction d with
  | zero =>
    intro i n hi hA hn
    refine Ev.step (f := fun _ => some ((0 : Int), S, (A : Int), (3 : Int))) (fun k => ?_) (Ev.now _)
    simp only [gongref01_Reader_Groups.l0]
    rw [if_neg (by omega)]
  | succ d ih =>
    intro i n hi hA hn
    have hn8 : n < 72057594037927936 := Nat.lt_of_lt_of_le hn (Nat.le_trans (Nat.pow_le_pow_right (by decide) (show i ≤ 8 by omega)) (by decide))
    have hw : Hid (wrap64 ((A : Int) + (i : Int)) = ((A + i : Nat) : Int)) := Lib.hid (by rw [wrap64_id (by omega) (by omega)]; omega)
    by_cases he : A + i = S.size
    · rw [List.drop_of_length_le (by simp; omega)]
      refine Ev.step (f := fun _ => some ((0 : Int), S, (A : Int), (10 : Int))) (fun k => ?_) (Ev.now _)
      simp only [gongref01_Reader_Groups.l0]
      rw [if_pos (by omega), hw.out, if_pos (by omega)]
    · have hlt : A + i < S.size := by omega
      have hd : S.data.toList.drop (A + i) = S.data.toList[A + i]'(by simpa using hlt) :: S.data.toList.drop (A + i + 1) := List.drop_eq_getElem_cons (by simpa using hlt)
      have hb : bt S ((A + i : Nat) : Int) = ((S.data.toList[A + i]'(by simpa using hlt)).toNat : Int) := by
        rw [bt_L hlt]
        simp [List.getD, hlt]
      generalize S.data.toList[A + i]'(by simpa using hlt) = b at hd hb
      have hbl := b.toNat_lt
      have hn' : n * 128 + b.toNat % 128 < 128 ^ (i + 1) := by rw [Nat.pow_succ]; omega
      have hs : Hid (wrap64 (wrap64 ((n : Int) * 128) + Int.tmod (b.toNat : Int) 128) = ((n * 128 + b.toNat % 128 : Nat) : Int)) := Lib.hid (by
        have hm : Int.tmod (b.toNat : Int) 128 = ((b.toNat % 128 : Nat) : Int) := by rw [Int.tmod_eq_emod_of_nonneg (by omega)]; omega
        rw [hm, wrap64_id (x := (n : Int) * 128) (by omega) (by omega), wrap64_id (by omega) (by omega)]
        omega)
      have hj : ∀ q : Bool, q = decide (i = 0 ∧ b.toNat = 128) → Ev (fun k => gongref01_Reader_Groups.j1 k most (n : Int) (i : Int) (b.toNat : Int) q S (A : Int) 0) (pout S A (pg most (d + 1) n (b :: S.data.toList.drop (A + i + 1)) i)) := by
        intro q hq
        subst hq
        by_cases c1 : i = 0 ∧ b.toNat = 128
        · refine Ev.step (f := fun _ => some ((0 : Int), S, (A : Int), (3 : Int))) (fun k => ?_) ?_
          · simp only [gongref01_Reader_Groups.j1]
            rw [decide_eq_true c1, if_pos rfl]
          · simp only [pg]
            rw [if_pos c1]
            exact Ev.now _
        · by_cases c2 : ((n * 128 + b.toNat % 128 : Nat) : Int) > most
          · refine Ev.step (f := fun _ => some ((0 : Int), S, (A : Int), (2 : Int))) (fun k => ?_) ?_
            · simp only [gongref01_Reader_Groups.j1]
              rw [decide_eq_false c1, if_neg (by decide), hs.out, if_pos c2]
            · simp only [pg]
              rw [if_neg c1, if_pos c2]
              exact Ev.now _
          · by_cases c3 : b.toNat < 128
            · refine Ev.step (f := fun _ => some (((n * 128 + b.toNat % 128 : Nat) : Int), S, ((A : Int) + ((i + 1 : Nat) : Int)), (0 : Int))) (fun k => ?_) ?_
              · simp only [gongref01_Reader_Groups.j1]
                rw [decide_eq_false c1, if_neg (by decide), hs.out, if_neg c2, if_pos (by omega), hw.out, wrap64_id (by omega) (by omega)]
                congr 4
              · simp only [pg]
                rw [if_neg c1, if_neg c2, if_pos c3]
                exact Ev.now _
            · refine Ev.step (f := fun k => gongref01_Reader_Groups.l0 k most ((n * 128 + b.toNat % 128 : Nat) : Int) ((i + 1 : Nat) : Int) S (A : Int) 0) (fun k => ?_) ?_
              · simp only [gongref01_Reader_Groups.j1]
                rw [decide_eq_false c1, if_neg (by decide), hs.out, if_neg c2, if_neg (by omega), wrap64_id (by omega) (by omega)]
                rfl
              · simp only [pg]
                rw [if_neg c1, if_neg c2, if_neg c3]
                exact ih (i + 1) _ (by omega) (by omega) hn'
      rw [hd]
      refine Ev.step (fun k => ?_) (hj _ rfl)
      simp only [gongref01_Reader_Groups.l0]
      rw [if_pos (by omega), hw.out, if_neg (by omega), if_pos (by omega), if_pos (by omega), hb, wrap64_id (by omega) (by omega)]
      by_cases h0 : i = 0
      · subst h0
        rw [if_pos (by rfl)]
        congr 1
        rw [Bool.eq_iff_iff, decide_eq_true_eq, beq_iff_eq]
        omega
      · rw [if_neg (by omega), decide_eq_false (fun z => h0 z.1)]
theorem ref_groups_ev (S : ByteArray) (hS : S.size ≤ 1073741824) (most : Int) (A : Nat) (hA : A ≤ S.size) : Ev (fun k => gongref01_Reader_Groups.f k S (A : Int) 0 most) (pout S A (rdG most (S.data.toList.drop A))) := by
  unfold gongref01_Reader_Groups.f
  exact Ev.congr (fun k => by rw [if_pos rfl]; rfl) (ref_groups_l0 S hS most A 9 0 0 (by omega) (by omega) (by decide))
theorem ref_Bytes_f (S : ByteArray) (hS : S.size ≤ 1073741824) (A : Nat) (hA : A ≤ S.size) (n : Int) : gongref01_Reader_Bytes.f S (A : Int) 0 n = some (if n < 0 then (⟨#[]⟩, S, (A : Int), 1) else if n > ((S.data.toList.drop A).length : Int) then (⟨#[]⟩, S, (A : Int), 10) else (ofL ((S.data.toList.drop A).take n.toNat), S, (A : Int) + n, 0)) := by
  have hsl : S.data.toList.length = S.size := by simp
  unfold gongref01_Reader_Bytes.f
  rw [if_pos rfl]
  by_cases h0 : n < 0
  · rw [if_pos h0, if_pos h0]
  · rw [if_neg h0, if_neg h0]
    simp only [gongref01_Reader_Left.f, Option.bind_some]
    rw [List.length_drop, hsl, wrap64_id (by omega) (by omega)]
    by_cases h1 : n > ((S.size - A : Nat) : Int)
    · rw [if_pos (by omega), if_pos h1]
    · rw [if_neg (by omega), if_neg h1, wrap64_id (x := (A : Int) + n) (by omega) (by omega), wrap64_id (by omega) (by omega), if_pos (by omega), if_pos (by omega), if_pos (by omega)]
      congr 2
      apply ext
      rw [extract_L, ofL_L, show ((A : Int) + n - n).toNat = A by omega, show ((A : Int) + n).toNat = A + n.toNat by omega, List.drop_take]
      congr 1
      omega
end Go.Proofs.Ytbeegnajghkhoaa.OctF
end
/-! OctQ -/
section
/- The document's reader: a text. -/
namespace Go.Proofs.Ytbeegnajghkhoaa.OctF
open Go Go.RowKit Go.Proofs.Ytbeegnajghkhoaa.Px Go.Proofs.YtbeegnajghkhoaaW.PrintWords Go.Proofs.Ytbeegnajghkhoaa.Str
def tout (S : ByteArray) (A : Nat) (most : Int) (l : List UInt8) : ByteArray × ByteArray × Int × Int :=
  if (rdG most l).2.2 = 0 then (if (rdG most l).1 > ((l.drop (rdG most l).2.1.toNat).length : Int) then (⟨#[]⟩, S, (A : Int), 10) else (ofL ((l.drop (rdG most l).2.1.toNat).take (rdG most l).1.toNat), S, (A : Int) + (rdG most l).2.1 + (rdG most l).1, 0)) else (⟨#[]⟩, S, (A : Int), (rdG most l).2.2)
theorem ref_Text_rd (S : ByteArray) (hS : S.size ≤ 1073741824) (most : Int) (A : Nat) (hA : A ≤ S.size) : Ev (fun k => gongref01_Reader_Text.f k S (A : Int) 0 most) (tout S A most (S.data.toList.drop A)) := by
  unfold gongref01_Reader_Text.f
  refine Ev.bind (ref_groups_ev S hS most A hA) ?_
  have hsl : S.data.toList.length = S.size := by simp
  obtain ⟨g0, g1, _, g3, _⟩ := rdG_long most (S.data.toList.drop A)
  rw [List.length_drop, hsl] at g1
  unfold pout tout
  simp only
  refine Ev.congr (f := fun _ => some _) (fun k => ?_) (Ev.now _)
  by_cases he : (rdG most (S.data.toList.drop A)).2.2 = 0
  · obtain ⟨j, hj⟩ : ∃ j : Nat, (rdG most (S.data.toList.drop A)).2.1 = j := ⟨_, (Int.toNat_of_nonneg g0).symm⟩
    rw [hj] at g1
    rw [if_pos he, if_pos he, he, hj, Int.toNat_natCast, show (A : Int) + (j : Int) = ((A + j : Nat) : Int) by omega, ref_Bytes_f S hS (A + j) (by omega), if_neg (by omega), ← List.drop_drop]
    by_cases hg : (rdG most (S.data.toList.drop A)).1 > (((S.data.toList.drop A).drop j).length : Int)
    · rw [if_pos hg, if_pos hg]
      rfl
    · rw [if_neg hg, if_neg hg]
      rfl
  · rw [if_neg he, if_neg he]
    unfold gongref01_Reader_Bytes.f
    rw [if_neg he]
    simp only [Option.bind_some]
    rw [if_neg he]
end Go.Proofs.Ytbeegnajghkhoaa.OctF
end
/-! OctW -/
section
/- A reader's wide numbers and texts. -/
namespace Go.Proofs.Ytbeegnajghkhoaa.OctF
open Go Go.RowKit Go.Proofs.Ytbeegnajghkhoaa.Px Go.Proofs.YtbeegnajghkhoaaW.PrintWords Go.Proofs.Ytbeegnajghkhoaa.Str
theorem join8 (n b : Nat) (hn : n < 72057594037927936) (hb : b < 256) : Go.bits .or .u64 (IntKind.u64.wrap ((n : Int) * 256)) (b : Int) = ((n * 256 + b : Nat) : Int) := by
  have hw : IntKind.u64.wrap ((n : Int) * 256) = (n : Int) * 256 := by rw [IntKind.wrap_u64]; omega
  rw [hw, bits_join .u64 64 (by decide) (fun n h0 h1 => by rw [IntKind.wrap_u64]; omega) 8 ((n : Int) * 256) (b : Int) (by omega) (by omega) (by omega) (by omega) (by omega) (by omega)]
  omega
theorem wideU_val (l : List UInt8) (h : l.length ≤ 8) : Oct.wideU (l.map fun b => (b.toNat : Int)) = (val l : Int) := by
  have key : ∀ l : List UInt8, l.length ≤ 8 → Oct.wideU (l.map fun b => (b.toNat : Int)) = (val l : Int) := fun l => by
    refine snoc_ind (Q := fun l => l.length ≤ 8 → Oct.wideU (l.map fun b => (b.toNat : Int)) = (val l : Int)) (fun _ => rfl) (fun l b ih h => ?_) l
    rw [List.length_append, List.length_singleton] at h
    have h1 := ih (by omega)
    have hv := val_lt l
    have h7 : (256 : Nat) ^ l.length ≤ 72057594037927936 := Nat.le_trans (Nat.pow_le_pow_right (by decide) (show l.length ≤ 7 by omega)) (by decide)
    unfold Oct.wideU at h1 ⊢
    rw [List.map_append, List.foldl_append, h1, val_snoc]
    exact join8 (val l) b.toNat (by omega) (by have := b.toNat_lt; omega)
  exact key l h
theorem rWide (s : ByteArray) (c w : Int) : octet_Reader_Wide.f s c w = some (if c = 0 then (if w < 1 ∨ 8 < w then (0, s, 1) else if w > (s.size : Int) then (0, s, 10) else if val (s.data.toList.take w.toNat) < 9223372036854775808 then ((val (s.data.toList.take w.toNat) : Int), ofL (s.data.toList.drop w.toNat), 0) else (0, s, 1)) else (0, s, c)) := by
  have h0 : (⟨#[]⟩ : ByteArray).size ≤ 8 := by decide
  have h0' : Oct.wideU (BR.ints ⟨#[]⟩) < 9223372036854775808 := by decide
  have h0v : Oct.wideU (BR.ints ⟨#[]⟩) = 0 := by decide
  unfold octet_Reader_Wide.f
  by_cases hc : c = 0
  · subst hc
    by_cases hw : w < 1 ∨ 8 < w
    · simp only [if_pos hw, if_true, octet_Reader_Refuse.f, Option.bind_some, rBytes, show ¬ (1 : Int) = 0 by decide, if_false]
      simp [h0, h0v]
    · simp only [if_neg hw, if_true, Option.bind_some, rBytes]
      simp only [if_neg (show ¬ w < 0 by omega)]
      by_cases hg : w > (s.size : Int)
      · simp only [if_pos hg]
        simp [h0, h0v]
      · simp only [if_neg hg]
        have hl : (s.data.toList.take w.toNat).length = w.toNat := by rw [List.length_take]; simp; omega
        have hs8 : (ofL (s.data.toList.take w.toNat)).size ≤ 8 := by rw [ofL_size, hl]; omega
        have hv : Oct.wideU (BR.ints (ofL (s.data.toList.take w.toNat))) = (val (s.data.toList.take w.toNat) : Int) := wideU_val (s.data.toList.take w.toNat) (by rw [hl]; omega)
        simp only [if_pos hs8, hv]
        by_cases hb : val (s.data.toList.take w.toNat) < 9223372036854775808
        · simp only [if_pos hb, if_pos (show (val (s.data.toList.take w.toNat) : Int) < 9223372036854775808 by omega)]
        · simp only [if_neg hb, if_neg (show ¬ (val (s.data.toList.take w.toNat) : Int) < 9223372036854775808 by omega)]
          simp [octet_Reader_Refuse.f]
  · have e : (if w < 1 ∨ 8 < w then octet_Reader_Refuse.f s c 1 else some (s, c)) = some (s, c) := by
      unfold octet_Reader_Refuse.f
      rw [if_neg hc]
      split <;> rfl
    rw [e]
    simp only [Option.bind_some, rBytes, if_neg hc]
    simp [h0, h0v]
theorem rText (s : ByteArray) (c most : Int) : octet_Reader_Text.f s c most = some (if c = 0 then (if (rdG most s.data.toList).2.2 = 0 then (if (rdG most s.data.toList).1 > ((s.data.toList.drop (rdG most s.data.toList).2.1.toNat).length : Int) then (⟨#[]⟩, s, 10) else (ofL ((s.data.toList.drop (rdG most s.data.toList).2.1.toNat).take (rdG most s.data.toList).1.toNat), ofL ((s.data.toList.drop (rdG most s.data.toList).2.1.toNat).drop (rdG most s.data.toList).1.toNat), 0)) else (⟨#[]⟩, s, (rdG most s.data.toList).2.2)) else (⟨#[]⟩, s, c)) := by
  unfold octet_Reader_Text.f
  rw [rGroups s c most 40 (by decide)]
  simp only [Option.bind_some]
  obtain ⟨_, _, _, h4, _⟩ := rdG_long most s.data.toList
  by_cases hc : c = 0
  · simp only [if_pos hc]
    by_cases he : (rdG most s.data.toList).2.2 = 0
    · simp only [he, rBytes, if_true]
      rw [if_neg (by omega), ofL_size]
      by_cases hg : (rdG most s.data.toList).1 > ((s.data.toList.drop (rdG most s.data.toList).2.1.toNat).length : Int)
      · rw [if_pos hg, if_pos hg]
        rfl
      · rw [if_neg hg, if_neg hg]
        simp only [Option.bind_some, if_true, ofL_L]
    · simp only [if_neg he, rBytes, Option.bind_some]
  · simp only [if_neg hc, rBytes, Option.bind_some]
end Go.Proofs.Ytbeegnajghkhoaa.OctF
end
/-! OctX -/
section
/- The program's reader beside the document's: whatever is asked of both, they answer the same and stand at the same place. -/
namespace Go.Proofs.Ytbeegnajghkhoaa.OctF
open Go Go.RowKit Go.Proofs.Ytbeegnajghkhoaa.Px Go.Proofs.YtbeegnajghkhoaaW.PrintWords Go.Proofs.Ytbeegnajghkhoaa.Str
/-- The program's reader holds what stands behind the document's place. -/
def Rel (S s : ByteArray) (A : Nat) : Prop := A ≤ S.size ∧ s = ofL (S.data.toList.drop A)
theorem Rel.start (S : ByteArray) : Rel S S 0 := ⟨by omega, by rw [List.drop_zero, ofL_of]⟩
theorem Rel.size {S s : ByteArray} {A : Nat} (h : Rel S s A) : s.size = S.size - A := by rw [h.2, ofL_size, List.length_drop, ← size_L]
theorem Rel.list {S s : ByteArray} {A : Nat} (h : Rel S s A) : s.data.toList = S.data.toList.drop A := by rw [h.2, ofL_L]
theorem Rel.step {S s : ByteArray} {A : Nat} (h : Rel S s A) (j : Nat) (hj : A + j ≤ S.size) : Rel S (ofL (s.data.toList.drop j)) (A + j) := ⟨hj, by rw [h.list, List.drop_drop]⟩
theorem both_Groups {S s : ByteArray} {A : Nat} (hS : S.size ≤ 1073741824) (h : Rel S s A) (c n : Int) : ∃ (r : Int) (s' : ByteArray) (c' : Int) (A' : Nat), octet_Reader_Groups.f 40 s c n = some (r, s', c') ∧ (∃ k, gongref01_Reader_Groups.f k S (A : Int) c n = some (r, S, (A' : Int), c')) ∧ Rel S s' A' := by
  rw [rGroups s c n 40 (by decide)]
  by_cases hc : c = 0
  · subst hc
    rw [if_pos rfl]
    obtain ⟨k, hk⟩ := (ref_groups_ev S hS n A h.1).rounds
    obtain ⟨g0, g1, g2, _, _⟩ := rdG_long n (S.data.toList.drop A)
    rw [List.length_drop, ← size_L] at g1
    obtain ⟨j, hj⟩ : ∃ j : Nat, (rdG n (S.data.toList.drop A)).2.1 = j := ⟨_, (Int.toNat_of_nonneg g0).symm⟩
    have hA := h.1
    rw [h.list, hj, Int.toNat_natCast]
    refine ⟨_, _, _, A + j, rfl, ⟨k, ?_⟩, by have := h.step j (by omega); rw [h.list] at this; exact this⟩
    rw [hk]
    unfold pout
    rw [hj]
    by_cases he : (rdG n (S.data.toList.drop A)).2.2 = 0
    · rw [if_pos he]
      rfl
    · have := (g2 he).2
      rw [if_neg he, show j = 0 by omega]
      rfl
  · rw [if_neg hc]
    refine ⟨_, _, _, A, rfl, ⟨0, ?_⟩, h⟩
    unfold gongref01_Reader_Groups.f
    rw [if_neg hc]
theorem both_Bytes {S s : ByteArray} {A : Nat} (hS : S.size ≤ 1073741824) (h : Rel S s A) (c n : Int) : ∃ (r : ByteArray) (s' : ByteArray) (c' : Int) (A' : Nat), octet_Reader_Bytes.f s c n = some (r, s', c') ∧ gongref01_Reader_Bytes.f S (A : Int) c n = some (r, S, (A' : Int), c') ∧ Rel S s' A' := by
  rw [rBytes]
  by_cases hc : c = 0
  · subst hc
    rw [if_pos rfl, ref_Bytes_f S hS A h.1]
    have hsz := h.size
    have hA := h.1
    by_cases h0 : n < 0
    · rw [if_pos h0, if_pos h0]
      exact ⟨_, _, _, A, rfl, rfl, h⟩
    · rw [if_neg h0, if_neg h0, List.length_drop, ← size_L, hsz]
      by_cases h1 : n > ((S.size - A : Nat) : Int)
      · rw [if_pos h1, if_pos h1]
        exact ⟨_, _, _, A, rfl, rfl, h⟩
      · rw [if_neg h1, if_neg h1]
        refine ⟨_, _, _, A + n.toNat, rfl, ?_, h.step _ (by omega)⟩
        rw [h.list]
        congr 3
        congr 1
        omega
  · rw [if_neg hc]
    refine ⟨_, _, _, A, rfl, ?_, h⟩
    unfold gongref01_Reader_Bytes.f
    rw [if_neg hc]
theorem both_Text {S s : ByteArray} {A : Nat} (hS : S.size ≤ 1073741824) (h : Rel S s A) (c n : Int) : ∃ (r : ByteArray) (s' : ByteArray) (c' : Int) (A' : Nat), octet_Reader_Text.f s c n = some (r, s', c') ∧ (∃ k, gongref01_Reader_Text.f k S (A : Int) c n = some (r, S, (A' : Int), c')) ∧ Rel S s' A' := by
  rw [rText]
  by_cases hc : c = 0
  · subst hc
    rw [if_pos rfl]
    obtain ⟨k, hk⟩ := (ref_Text_rd S hS n A h.1).rounds
    obtain ⟨g0, g1, g2, g3, _⟩ := rdG_long n (S.data.toList.drop A)
    rw [List.length_drop, ← size_L] at g1
    obtain ⟨j, hj⟩ : ∃ j : Nat, (rdG n (S.data.toList.drop A)).2.1 = j := ⟨_, (Int.toNat_of_nonneg g0).symm⟩
    have hA := h.1
    unfold tout at hk
    rw [h.list]
    by_cases he : (rdG n (S.data.toList.drop A)).2.2 = 0
    · rw [if_pos he] at hk ⊢
      by_cases hg : (rdG n (S.data.toList.drop A)).1 > (((S.data.toList.drop A).drop (rdG n (S.data.toList.drop A)).2.1.toNat).length : Int)
      · rw [if_pos hg] at hk ⊢
        exact ⟨_, _, _, A, rfl, ⟨k, hk⟩, h⟩
      · rw [if_neg hg] at hk ⊢
        obtain ⟨m, hm⟩ : ∃ m : Nat, (rdG n (S.data.toList.drop A)).1 = m := ⟨_, (Int.toNat_of_nonneg g3).symm⟩
        rw [hj, hm] at hk hg ⊢
        rw [Int.toNat_natCast, Int.toNat_natCast] at hk ⊢
        rw [Int.toNat_natCast, List.length_drop, List.length_drop, ← size_L] at hg
        refine ⟨_, _, _, A + j + m, rfl, ⟨k, by rw [hk]; rfl⟩, ⟨by omega, ?_⟩⟩
        rw [List.drop_drop, List.drop_drop, Nat.add_assoc]
    · rw [if_neg he] at hk ⊢
      exact ⟨_, _, _, A, rfl, ⟨k, hk⟩, h⟩
  · rw [if_neg hc]
    refine ⟨_, _, _, A, rfl, ⟨0, ?_⟩, h⟩
    unfold gongref01_Reader_Text.f gongref01_Reader_Groups.f
    rw [if_neg hc]
    simp only [Option.bind_some]
    unfold gongref01_Reader_Bytes.f
    rw [if_neg hc]
    simp only [Option.bind_some]
    rw [if_neg hc]
theorem both_Wide {S s : ByteArray} {A : Nat} (hS : S.size ≤ 1073741824) (h : Rel S s A) (c n : Int) : ∃ (r : Int) (s' : ByteArray) (c' : Int) (A' : Nat), octet_Reader_Wide.f s c n = some (r, s', c') ∧ (∃ k, gongref01_Reader_Wide.f k S (A : Int) c n = some (r, S, (A' : Int), c')) ∧ Rel S s' A' := by
  have hA := h.1
  have hsz := h.size
  rw [rWide]
  by_cases hc : c = 0
  · subst hc
    rw [if_pos rfl]
    have bad : (n < 1 ∨ 8 < n) → ∃ k, gongref01_Reader_Wide.f k S (A : Int) 0 n = some (0, S, (A : Int), 1) := by
      intro hb
      refine ⟨1, ?_⟩
      unfold gongref01_Reader_Wide.f
      rw [if_pos rfl]
      by_cases h1 : n < 1
      · rw [if_pos h1]
        simp only [gongref01_Reader_Wide.j0, if_true]
      · rw [if_neg h1, decide_eq_true (by omega)]
        simp only [gongref01_Reader_Wide.j0, if_true]
    by_cases hb : n < 1 ∨ 8 < n
    · rw [if_pos hb]
      exact ⟨_, _, _, A, rfl, bad hb, h⟩
    · rw [if_neg hb]
      have go : ∀ k, gongref01_Reader_Wide.f (k + 1) S (A : Int) 0 n = if n > (S.size : Int) - A then some (0, S, (A : Int), 10) else ((gongref01_Number.f k (S.extract A (A + n.toNat))).bind fun b => if b.2 = true then some (b.1, S, ((A + n.toNat : Nat) : Int), 0) else some (0, S, (A : Int), 1)) := by
        intro k
        unfold gongref01_Reader_Wide.f
        rw [if_pos rfl, if_neg (by omega), decide_eq_false (by omega)]
        simp only [gongref01_Reader_Wide.j0]
        rw [if_neg (by decide)]
        simp only [gongref01_Reader_Left.f, Option.bind_some]
        rw [wrap64_id (x := (S.size : Int) - A) (by omega) (by omega)]
        by_cases h1 : n > (S.size : Int) - A
        · rw [if_pos h1, if_pos h1]
        · rw [if_neg h1, if_neg h1, wrap64_id (x := (A : Int) + n) (by omega) (by omega), if_pos (by omega), if_pos (by omega), if_pos (by omega), Int.toNat_natCast, show ((A : Int) + n).toNat = A + n.toNat by omega, show (A : Int) + n = ((A + n.toNat : Nat) : Int) by omega]
      by_cases h1 : n > (s.size : Int)
      · rw [if_pos h1]
        exact ⟨_, _, _, A, rfl, ⟨1, by rw [go 0, if_pos (by omega)]⟩, h⟩
      · rw [if_neg h1]
        have e : (S.extract A (A + n.toNat)).data.toList = s.data.toList.take n.toNat := by
          rw [extract_L, h.list, List.drop_take]
          congr 1
          omega
        obtain ⟨k, hk⟩ := (ref_Number_ev (S.extract A (A + n.toNat)) (by rw [size_L, e, List.length_take]; omega)).rounds
        rw [e] at hk
        by_cases hv : val (s.data.toList.take n.toNat) < 9223372036854775808
        · rw [if_pos hv] at hk ⊢
          refine ⟨_, _, _, A + n.toNat, rfl, ⟨k + 1, ?_⟩, h.step _ (by omega)⟩
          rw [go k, if_neg (by omega), hk]
          rfl
        · rw [if_neg hv] at hk ⊢
          refine ⟨_, _, _, A, rfl, ⟨k + 1, ?_⟩, h⟩
          rw [go k, if_neg (by omega), hk]
          rfl
  · rw [if_neg hc]
    refine ⟨_, _, _, A, rfl, ⟨0, ?_⟩, h⟩
    unfold gongref01_Reader_Wide.f
    rw [if_neg hc]
theorem both_Refuse (S s : ByteArray) (A : Nat) (c n : Int) : ∃ c' : Int, octet_Reader_Refuse.f s c n = some (s, c') ∧ gongref01_Reader_Refuse.f S (A : Int) c n = some (S, (A : Int), c') := by
  unfold octet_Reader_Refuse.f gongref01_Reader_Refuse.f
  by_cases hc : c = 0
  · rw [if_pos hc, if_pos hc]
    exact ⟨_, rfl, rfl⟩
  · rw [if_neg hc, if_neg hc]
    exact ⟨_, rfl, rfl⟩
theorem both_Left {S s : ByteArray} {A : Nat} (hS : S.size ≤ 1073741824) (h : Rel S s A) (c : Int) : octet_Reader_Left.f s c = some ((s.size : Int), s, c) ∧ gongref01_Reader_Left.f S (A : Int) c = some ((s.size : Int), S, (A : Int), c) := by
  have hA := h.1
  refine ⟨rfl, ?_⟩
  unfold gongref01_Reader_Left.f
  rw [wrap64_id (by omega) (by omega), h.size]
  congr 2
  omega
theorem both_Done {S s : ByteArray} {A : Nat} (h : Rel S s A) (c : Int) : ∃ r : Int, octet_Reader_Done.f s c = some (r, s, c) ∧ gongref01_Reader_Done.f S (A : Int) c = some (r, S, (A : Int), c) := by
  have hA := h.1
  have hsz := h.size
  unfold octet_Reader_Done.f gongref01_Reader_Done.f
  by_cases hc : c = 0
  · subst hc
    rw [if_pos rfl, if_pos rfl]
    by_cases h0 : A < S.size
    · rw [if_neg (by rw [toList_L]; intro z; have := congrArg List.length z; rw [← size_L, List.length_nil] at this; omega), if_pos (by omega)]
      exact ⟨_, rfl, rfl⟩
    · rw [if_pos (by rw [toList_L]; exact List.length_eq_zero_iff.mp (by rw [← size_L]; omega)), if_neg (by omega)]
      exact ⟨_, rfl, rfl⟩
  · rw [if_neg hc, if_neg hc]
    exact ⟨_, rfl, rfl⟩
end Go.Proofs.Ytbeegnajghkhoaa.OctF
end
/-! Bel -/
section
/- A number from 0 on, below n: the remainder. -/
namespace Go.Proofs.Ytbeegnajghkhoaa.Bel
open Go Go.RowKit Go.Proofs.Ytbeegnajghkhoaa.Px Go.Proofs.YtbeegnajghkhoaaW.PrintWords Go.Proofs.Ytbeegnajghkhoaa.Str
theorem below_f (x n : Int) (h0 : 0 < n) (h1 : n ≤ 4611686018427387904) : gongbook_Below.f x n = some (x % n) := by
  unfold gongbook_Below.f
  rw [if_neg (by omega)]
  have hr := Int.tmod_lt_of_pos x h0
  have hl : -n < Int.tmod x n := by
    have := Int.lt_tmod_of_pos x h0
    omega
  rw [wrap64_id (by omega) (by omega)]
  congr 1
  have e : (Int.tmod x n + n).tmod n = (Int.tmod x n + n) % n := Int.tmod_eq_emod_of_nonneg (by omega)
  rw [e, Int.add_emod_right]
  rcases Int.le_total 0 x with hx | hx
  · rw [Int.tmod_eq_emod_of_nonneg hx, Int.emod_emod_of_dvd _ (Int.dvd_refl n)]
  · have : Int.tmod x n = x - n * Int.tdiv x n := by have := Int.mul_tdiv_add_tmod x n; omega
    rw [this, Int.sub_mul_emod_self_left]
end Go.Proofs.Ytbeegnajghkhoaa.Bel
end
/-! KAsked -/
section
/- The law's helper 'asked': one call of both readers. -/
namespace Go.Proofs.Ytbeegnajghkhoaa.Px
open Go.RowKit Go.Proofs.YtbeegnajghkhoaaW.PrintWords Go.Proofs.YtbeegnajghkhoaaW.PrintLast Go.Proofs.YtbeegnajghkhoaaW.PrintMore Go.Proofs.Ytbeegnajghkhoaa.OctF
attribute [local go_sem] max2_int min2_int max_two min_two max_three min_three max_four min_four
set_option linter.unusedVariables false
/-- Both readers stand where they should. -/
def Both (w0 W : World) (g1 g2 : Nat) (S : ByteArray) (c : Int) (A : Nat) (s : ByteArray) : Prop := IsS59 w0 W g1 s c ∧ IsS38 w0 W g2 S (A : Int) c ∧ g1 ≠ g2 ∧ Below w0.heap.size w0 W ∧ Rel S s A
def AskPost (w0 : World) (g1 g2 : Nat) (S : ByteArray) (e : Ending) (w' : World) : Prop := e = .returned (.bool true) ∧ ∃ (s : ByteArray) (c : Int) (A : Nat), Both w0 w' g1 g2 S c A s
theorem keep2 {w0 w w' : World} {g1 g2 : Nat} {S : ByteArray} {A c : Int} (h : IsS38 w0 w g2 S A c) (hk : KeepBut w w' g1 none) (hne : g1 ≠ g2) : IsS38 w0 w' g2 S A c := ⟨hk.blk h.1 (fun e => hne e.symm) (by simp), h.2⟩
theorem keep1 {w0 w w' : World} {g1 g2 : Nat} {s : ByteArray} {c : Int} (h : IsS59 w0 w g1 s c) (hk : KeepBut w w' g2 none) (hne : g1 ≠ g2) : IsS59 w0 w' g1 s c := ⟨hk.blk h.1 hne (by simp), h.2⟩
set_option maxHeartbeats 4000000 in
set_option maxRecDepth 100000 in
theorem asked_calls (w0 w : World) (g1 g2 : Nat) (S s : ByteArray) (c : Int) (A : Nat) (kd n : Int) (hS : S.size ≤ 1073741824) (hB : Both w0 w g1 g2 S c A s) :
    Calls Try.prog 19 #[.pointer (some ⟨g1, 0, none⟩), .pointer (some ⟨g2, 0, none⟩), .agg #[.int .i64 kd, .int .i64 n]] w (AskPost w0 g1 g2 S) := by
  obtain ⟨hi1, hi2, hne, hb, hR⟩ := hB
  have l1 := hi1.lt
  have l2 := hi2.lt
  have n1 : w.heap.size ≠ g1 := by omega
  have n2 : w.heap.size ≠ g2 := by omega
  have hx := Int.emod_nonneg kd (show (5 : Int) ≠ 0 by decide)
  have hy := Int.emod_lt_of_pos kd (show (0 : Int) < 5 by decide)
  have HD := Lib.hid (Go.Proofs.Ytbeegnajghkhoaa.Bel.below_f kd 5 (by decide) (by decide))
  have HDn := Lib.hid (Go.Proofs.Ytbeegnajghkhoaa.Bel.below_f n 50 (by decide) (by decide))
  have HI1 := Aside0.mk (hi1.alloc (.cells #[.int .i64 kd, .int .i64 n] 41))
  have HI2 := Aside0.mk (hi2.alloc (.cells #[.int .i64 kd, .int .i64 n] 41))
  have HB := Aside0.mk (hb.alloc hb.size (.cells #[.int .i64 kd, .int .i64 n] 41))
  have HR := Lib.hid hR
  have NE := Lib.hid hne
  have N1 := Lib.hid n1
  have N2 := Lib.hid n2
  have HS := Lib.hid hS
  clear hi1 hi2 hb hR hne n1 n2 l1 l2 hS
  generalize hm : kd % 5 = m at hx hy HD
  clear hm
  go_enter Try.func19, Try.ntmps19
  go_wp2_with fail
  refine (gongbook_Below.calls kd 5 m _ HD.out).mono ?_
  rintro e W1 ⟨rfl, ⟨nd, rfl⟩⟩
  have hcell : ((w.alloc (.cells #[.int .i64 kd, .int .i64 n] 41)).drewN nd).cell? ⟨w.heap.size, 1, none⟩ = some (.int .i64 n) := by rw [World.cell?_drewN, Lib.cell_of_heap (heap_alloc_new w _)]; rfl
  have H1 := Aside0.mk (HI1.out.drewN nd)
  have H2 := Aside0.mk (HI2.out.drewN nd)
  have H3 := HB
  clear HI1 HI2 HB
  by_cases m0 : m = 0
  · subst m0
    obtain ⟨r, s2, c2, A2, p1, ⟨k, p2⟩, pR⟩ := both_Groups HS.out HR.out c n
    have P1 := Lib.hid p1
    have P2 := Lib.hid p2
    have PR := Lib.hid pR
    clear p1 p2 pR
    go_upto_region 7 with (fail)
    go_region_held3 (fun w' => w'.cell? ⟨w.heap.size, 1, none⟩ = some (.int .i64 n)) (first | exact hcell2 | exact hcell1 | exact hcell) (first | (go_at_call 16; refine (octet_Reader_Groups.calls 40 g1 s c n r s2 c2 w0 _ (by exact H1.out) (by repeat (first | exact H3.out | apply below_drew1 | apply pw_below_drewN)) P1.out).mono ?_; rintro e W2 ⟨rfl, hi, hb, hk⟩; have hcell1 : W2.cell? ⟨w.heap.size, 1, none⟩ = some (.int .i64 n) := keep_cell hk (by exact hcell) N1.out; have G1 := Aside0.mk hi; have G2 := Aside0.mk (keep2 (by exact H2.out) hk NE.out); have G3 := Aside0.mk hb; clear hi hb hk) | (go_at_call 33; refine (gongref01_Reader_Groups.calls k g2 S (A : Int) c n r S (A2 : Int) c2 w0 _ (by exact G2.out) (by repeat (first | exact G3.out | apply below_drew1 | apply pw_below_drewN)) P2.out).mono ?_; rintro e W3 ⟨rfl, hi, hb, hk⟩; have hcell2 : W3.cell? ⟨w.heap.size, 1, none⟩ = some (.int .i64 n) := keep_cell hk (by exact hcell1) N2.out; have F1 := Aside0.mk (keep1 (by exact G1.out) hk NE.out); have F2 := Aside0.mk hi; have F3 := Aside0.mk hb; clear hi hb hk))
    go_wp2_with fail
    go_ret
    exact ⟨by first | rfl | simp, s2, c2, A2, F1.out, F2.out, NE.out, F3.out, PR.out⟩
  have m0b : (m == 0) = false := beq_eq_false_iff_ne.mpr m0
  by_cases m1 : m = 1
  · subst m1
    obtain ⟨r, s2, c2, A2, p1, ⟨k, p2⟩, pR⟩ := both_Wide HS.out HR.out c n
    have P1 := Lib.hid p1
    have P2 := Lib.hid p2
    have PR := Lib.hid pR
    clear p1 p2 pR
    go_upto_region 9 with (fail)
    go_region_held3 (fun w' => w'.cell? ⟨w.heap.size, 1, none⟩ = some (.int .i64 n)) (first | exact hcell2 | exact hcell1 | exact hcell) (first | (go_at_call 25; refine (octet_Reader_Wide.calls g1 s c n r s2 c2 w0 _ (by exact H1.out) (by repeat (first | exact H3.out | apply below_drew1 | apply pw_below_drewN)) P1.out).mono ?_; rintro e W2 ⟨rfl, hi, hb, hk⟩; have hcell1 : W2.cell? ⟨w.heap.size, 1, none⟩ = some (.int .i64 n) := keep_cell hk (by exact hcell) N1.out; have G1 := Aside0.mk hi; have G2 := Aside0.mk (keep2 (by exact H2.out) hk NE.out); have G3 := Aside0.mk hb; clear hi hb hk) | (go_at_call 34; refine (gongref01_Reader_Wide.calls k g2 S (A : Int) c n r S (A2 : Int) c2 w0 _ (by exact G2.out) (by repeat (first | exact G3.out | apply below_drew1 | apply pw_below_drewN)) P2.out).mono ?_; rintro e W3 ⟨rfl, hi, hb, hk⟩; have hcell2 : W3.cell? ⟨w.heap.size, 1, none⟩ = some (.int .i64 n) := keep_cell hk (by exact hcell1) N2.out; have F1 := Aside0.mk (keep1 (by exact G1.out) hk NE.out); have F2 := Aside0.mk hi; have F3 := Aside0.mk hb; clear hi hb hk))
    go_wp2_with fail
    go_ret
    exact ⟨by first | rfl | simp, s2, c2, A2, F1.out, F2.out, NE.out, F3.out, PR.out⟩
  have m1b : (m == 1) = false := beq_eq_false_iff_ne.mpr m1
  by_cases m2 : m = 2
  · subst m2
    obtain ⟨r, s2, c2, A2, p1, ⟨k, p2⟩, pR⟩ := both_Text HS.out HR.out c n
    have P1 := Lib.hid p1
    have P2 := Lib.hid p2
    have PR := Lib.hid pR
    clear p1 p2 pR
    go_upto_region 11 with (fail)
    go_region_held3 (fun w' => w'.cell? ⟨w.heap.size, 1, none⟩ = some (.int .i64 n)) (first | exact hcell2 | exact hcell1 | exact hcell) (first | (go_at_call 26; refine (octet_Reader_Text.calls g1 s c n r s2 c2 w0 _ (by exact H1.out) (by repeat (first | exact H3.out | apply below_drew1 | apply pw_below_drewN)) P1.out).mono ?_; rintro e W2 ⟨rfl, hi, hb, hk⟩; have hcell1 : W2.cell? ⟨w.heap.size, 1, none⟩ = some (.int .i64 n) := keep_cell hk (by exact hcell) N1.out; have G1 := Aside0.mk hi; have G2 := Aside0.mk (keep2 (by exact H2.out) hk NE.out); have G3 := Aside0.mk hb; clear hi hb hk) | (go_at_call 35; refine (gongref01_Reader_Text.calls k g2 S (A : Int) c n r S (A2 : Int) c2 w0 _ (by exact G2.out) (by repeat (first | exact G3.out | apply below_drew1 | apply pw_below_drewN)) P2.out).mono ?_; rintro e W3 ⟨rfl, hi, hb, hk⟩; have hcell2 : W3.cell? ⟨w.heap.size, 1, none⟩ = some (.int .i64 n) := keep_cell hk (by exact hcell1) N2.out; have F1 := Aside0.mk (keep1 (by exact G1.out) hk NE.out); have F2 := Aside0.mk hi; have F3 := Aside0.mk hb; clear hi hb hk))
    go_wp2_with fail
    go_ret
    exact ⟨by first | rfl | simp, s2, c2, A2, F1.out, F2.out, NE.out, F3.out, PR.out⟩
  have m2b : (m == 2) = false := beq_eq_false_iff_ne.mpr m2
  by_cases m3 : m = 3
  · subst m3
    obtain ⟨r, s2, c2, A2, p1, p2, pR⟩ := both_Bytes HS.out HR.out c n
    have P1 := Lib.hid p1
    have P2 := Lib.hid p2
    have PR := Lib.hid pR
    clear p1 p2 pR
    go_upto_region 13 with (fail)
    go_region_held3 (fun w' => w'.cell? ⟨w.heap.size, 1, none⟩ = some (.int .i64 n)) (first | exact hcell2 | exact hcell1 | exact hcell) (first | (go_at_call 27; refine (octet_Reader_Bytes.calls g1 s c n r s2 c2 w0 _ (by exact H1.out) (by repeat (first | exact H3.out | apply below_drew1 | apply pw_below_drewN)) P1.out).mono ?_; rintro e W2 ⟨rfl, hi, hb, hk⟩; have hcell1 : W2.cell? ⟨w.heap.size, 1, none⟩ = some (.int .i64 n) := keep_cell hk (by exact hcell) N1.out; have G1 := Aside0.mk hi; have G2 := Aside0.mk (keep2 (by exact H2.out) hk NE.out); have G3 := Aside0.mk hb; clear hi hb hk) | (go_at_call 36; refine (gongref01_Reader_Bytes.calls g2 S (A : Int) c n r S (A2 : Int) c2 w0 _ (by exact G2.out) (by repeat (first | exact G3.out | apply below_drew1 | apply pw_below_drewN)) P2.out).mono ?_; rintro e W3 ⟨rfl, hi, hb, hk⟩; have hcell2 : W3.cell? ⟨w.heap.size, 1, none⟩ = some (.int .i64 n) := keep_cell hk (by exact hcell1) N2.out; have F1 := Aside0.mk (keep1 (by exact G1.out) hk NE.out); have F2 := Aside0.mk hi; have F3 := Aside0.mk hb; clear hi hb hk))
    go_wp2_with fail
    go_ret
    exact ⟨by first | rfl | simp, s2, c2, A2, F1.out, F2.out, NE.out, F3.out, PR.out⟩
  have m3b : (m == 3) = false := beq_eq_false_iff_ne.mpr m3
  obtain ⟨c2, p1, p2⟩ := both_Refuse S s A c (n % 50)
  have P1 := Lib.hid p1
  have P2 := Lib.hid p2
  clear p1 p2 m0 m1 m2 m3
  go_wp2_with fail
  refine (gongbook_Below.calls n 50 (n % 50) _ HDn.out).mono ?_
  rintro e W2 ⟨rfl, ⟨nd2, rfl⟩⟩
  go_wp2_with fail
  refine (octet_Reader_Refuse.calls g1 s c (n % 50) s c2 w0 _ (by exact H1.out) (by repeat (first | exact H3.out | apply below_drew1 | apply pw_below_drewN)) P1.out).mono ?_
  rintro e W2 ⟨rfl, hi, hb, hk⟩
  have G1 := Aside0.mk hi
  have G2 := Aside0.mk (keep2 (by exact H2.out) hk NE.out)
  have G3 := Aside0.mk hb
  clear hi hb hk
  go_wp2_with fail
  refine (gongref01_Reader_Refuse.calls g2 S (A : Int) c (n % 50) S (A : Int) c2 w0 _ (by exact G2.out) (by repeat (first | exact G3.out | apply below_drew1 | apply pw_below_drewN)) P2.out).mono ?_
  rintro e W3 ⟨rfl, hi, hb, hk⟩
  have F1 := Aside0.mk (keep1 (by exact G1.out) hk NE.out)
  have F2 := Aside0.mk hi
  have F3 := Aside0.mk hb
  clear hi hb hk
  go_wp2_with fail
  go_ret
  exact ⟨rfl, s, c2, A, F1.out, F2.out, NE.out, F3.out, HR.out⟩
end Go.Proofs.Ytbeegnajghkhoaa.Px
end
/-! PureOctetWrites -/
section
/- The statement OctetWrites over whole numbers and lists alone: groups, wide numbers and long texts are the document's. -/
namespace Go.Proofs.Ytbeegnajghkhoaa.OctF
open Go Go.RowKit Go.Proofs.Ytbeegnajghkhoaa.Px Go.Proofs.YtbeegnajghkhoaaW.PrintWords Go.Proofs.Ytbeegnajghkhoaa.Str

theorem works_f : gonglaw01_works.f = some true := by
  unfold gonglaw01_works.f
  rw [show (300 : Int) = ((300 : Nat) : Int) from rfl, show (3 : Int) = ((3 : Nat) : Int) from rfl, groups_ok 300 (by decide), wide_ok 300 3 (by decide) (by decide) (by decide)]
  simp only [Option.bind_some, toList_L, ofL_L]
  have e1 : grp 300 = [130, 44] := by
    unfold grp
    rw [hi_pos (by decide), show 300 / 128 / 128 = 0 by decide, hi_zero]
    decide
  have e2 : be 3 300 = [0, 1, 44] := by decide
  rw [if_pos (show 300 < 256 ^ 3 by decide)]
  simp only [ofL_L, e1, e2]
  rfl
theorem ref_Groups_ev (x : Int) (h : x ≤ 9223372036854775807) : ∃ r, octet_Groups.f x = some r ∧ Ev (fun k => gongref01_Groups.f k x) r := by
  unfold gongref01_Groups.f
  by_cases h0 : x < 0
  · exact ⟨_, groups_no x h0, Ev.congr (fun k => by rw [if_pos h0]) (Ev.now _)⟩
  · obtain ⟨n, rfl⟩ : ∃ n : Nat, x = n := ⟨x.toNat, by omega⟩
    refine ⟨_, groups_ok n (by omega), Ev.congr (f := fun k => (gongref01_Grouped.f k (n : Int)).bind fun t => some (t, 0)) (fun k => by rw [if_neg h0]) ?_⟩
    exact Ev.bind (ref_Grouped_ev n (by omega)) (Ev.now _)
theorem ref_Wide_ev (x y : Int) (h : x ≤ 9223372036854775807) : ∃ r, octet_Wide.f x y = some r ∧ Ev (fun k => gongref01_Wide.f k x y) r := by
  have hno : Ev (fun k => gongref01_Wide.j0 k x y true) ((⟨#[]⟩ : ByteArray), (1 : Int)) := Ev.step (f := fun _ => some _) (fun k => by simp only [gongref01_Wide.j0]; rw [if_pos trivial]) (Ev.now _)
  unfold gongref01_Wide.f
  by_cases h1 : y < 1
  · refine ⟨(⟨#[]⟩, 1), ?_, Ev.congr (fun k => by rw [if_pos h1]) hno⟩
    unfold octet_Wide.f
    rw [if_pos h1]
  by_cases h2 : y > 8
  · refine ⟨(⟨#[]⟩, 1), ?_, Ev.congr (fun k => by rw [if_neg h1, if_pos h2]) hno⟩
    unfold octet_Wide.f
    rw [if_neg h1, if_pos (by omega)]
  by_cases h3 : x < 0
  · refine ⟨(⟨#[]⟩, 1), ?_, Ev.congr (fun k => by rw [if_neg h1, if_neg h2, decide_eq_true h3]) hno⟩
    unfold octet_Wide.f
    rw [if_neg h1, if_neg (by omega), if_pos h3]
  obtain ⟨n, rfl⟩ : ∃ n : Nat, x = n := ⟨x.toNat, by omega⟩
  obtain ⟨w, rfl⟩ : ∃ w : Nat, y = w := ⟨y.toNat, by omega⟩
  refine ⟨_, wide_ok n w (by omega) (by omega) (by omega), Ev.congr (f := fun k => gongref01_Wide.j0 k (n : Int) (w : Int) false) (fun k => by rw [if_neg h1, if_neg h2, decide_eq_false h3]) ?_⟩
  refine Ev.step (f := fun k => (gongref01_Padded.f k (n : Int) (w : Int)).bind fun t => (gongref01_Number.f k t).bind fun q => if q.1 = (n : Int) then some (t, 0) else some (⟨#[]⟩, 1)) (fun k => ?_) ?_
  · simp only [gongref01_Wide.j0]
    rw [if_neg (by decide)]
  · refine Ev.bind (ref_Padded_ev n w (by omega) (by omega)) ?_
    refine Ev.bind (ref_Number_ev (ofL (be w n)) (by rw [ofL_size, be_length]; omega)) ?_
    rw [ofL_L, val_be]
    have hm : n % 256 ^ w ≤ n := Nat.mod_le _ _
    have hlt : n % 256 ^ w < 9223372036854775808 := by omega
    simp only [if_pos hlt]
    refine Ev.congr (f := fun _ => some _) (fun k => ?_) (Ev.now _)
    by_cases hb : n < 256 ^ w
    · rw [if_pos hb, if_pos (by rw [Nat.mod_eq_of_lt hb])]
    · have : n % 256 ^ w < 256 ^ w := Nat.mod_lt _ (Nat.pow_pos (by decide))
      rw [if_neg hb, if_neg (by omega)]
theorem ref_Text_ev (s : ByteArray) (h : s.size ≤ 1073741824) : Ev (fun k => gongref01_Text.f k s) (ofL (grp s.size ++ s.data.toList)) := by
  unfold gongref01_Text.f
  refine Ev.bind (ref_Grouped_ev s.size (by omega)) ?_
  have := grp_length s.size (by omega)
  refine Ev.congr (f := fun _ => some _) (fun k => ?_) (Ev.now _)
  rw [ofL_size, if_pos (by omega)]
  congr 1
end Go.Proofs.Ytbeegnajghkhoaa.OctF
namespace Go.Proofs.Ytbeegnajghkhoaa.Pure
open Go Go.RowKit Go.Proofs.Ytbeegnajghkhoaa.Px Go.Proofs.YtbeegnajghkhoaaW.PrintWords Go.Proofs.Ytbeegnajghkhoaa.Str Go.Proofs.Ytbeegnajghkhoaa.OctF
theorem OctetWrites : gonglaw01_OctetWrites.Pure := by
  intro x y s hx _ hs
  have hx := wf_i64 hx
  apply Ev.rounds
  unfold gonglaw01_OctetWrites.f
  by_cases h7 : (s.size : Int) > 70000
  · refine Ev.congr (f := fun _ => some true) (fun k => ?_) (Ev.now _)
    rw [if_pos h7, works_f]
    rfl
  · simp only [if_neg h7]
    obtain ⟨r, hr, hr'⟩ := ref_Groups_ev x hx.2
    obtain ⟨q, hq, hq'⟩ := ref_Wide_ev x y hx.2
    rw [hr]
    simp only [Option.bind_some]
    refine Ev.bind hr' ?_
    rw [hq]
    simp only [Option.bind_some]
    refine Ev.bind hq' ?_
    rw [text_ok s (by omega)]
    simp only [if_true, Option.bind_some]
    refine Ev.bind (ref_Text_ev s (by omega)) ?_
    refine Ev.congr (f := fun _ => some true) (fun k => ?_) (Ev.now _)
    rw [works_f]
    simp
end Go.Proofs.Ytbeegnajghkhoaa.Pure
end
/-! KOctetReads -/
section
/- The walk of the law OctetReads: both readers are asked the same, one call after the other. -/
namespace Go.Proofs.Ytbeegnajghkhoaa.Px
open Go.RowKit Go.Proofs.YtbeegnajghkhoaaW.PrintWords Go.Proofs.YtbeegnajghkhoaaW.PrintLast Go.Proofs.YtbeegnajghkhoaaW.PrintMore Go.Proofs.Ytbeegnajghkhoaa.OctF
attribute [local go_sem] max2_int min2_int max_two min_two max_three min_three max_four min_four
set_option linter.unusedVariables false
def dnR (s : ByteArray) (c : Int) : Int := if c = 0 then (if s.toList = ([] : List UInt8) then c else 3) else c
theorem dn1 (s : ByteArray) (c : Int) : octet_Reader_Done.f s c = some (dnR s c, s, c) := by
  unfold octet_Reader_Done.f dnR
  split
  · split <;> rfl
  · rfl
theorem dn2 {S s : ByteArray} {A : Nat} (h : Rel S s A) (c : Int) : gongref01_Reader_Done.f S (A : Int) c = some (dnR s c, S, (A : Int), c) := by
  obtain ⟨r, h1, h2⟩ := both_Done h c
  rw [dn1] at h1
  cases h1
  exact h2
section
variable {w0 w : World} {g1 g2 : Nat} {S s : ByteArray} {c : Int} {A : Nat}
theorem Both.e (h : Both w0 w g1 g2 S c A s) : w.cell? ⟨g2, 2, none⟩ = some (.int .i64 c) := by rw [Lib.cell_of_heap h.2.1.1]; rfl
theorem Both.drew1 (h : Both w0 w g1 g2 S c A s) : Both w0 w.drew g1 g2 S c A s := ⟨h.1, h.2.1, h.2.2.1, below_drew1 h.2.2.2.1, h.2.2.2.2⟩
theorem Both.below (h : Both w0 w g1 g2 S c A s) : Below w0.heap.size w0 w := h.2.2.2.1
theorem Both.left1 (h : Both w0 w g1 g2 S c A s) : Calls Try.prog 18 #[.pointer (some ⟨g1, 0, none⟩)] w fun e w' => e = .returned (.int .i64 (s.size : Int)) ∧ Both w0 w' g1 g2 S c A s :=
  (octet_Reader_Left.calls g1 s c (s.size : Int) s c w0 w h.1 h.2.2.2.1 rfl).mono fun _ _ ⟨he, hi, hb, hk⟩ => ⟨he, hi, keep2 h.2.1 hk h.2.2.1, h.2.2.1, hb, h.2.2.2.2⟩
theorem Both.code1 (h : Both w0 w g1 g2 S c A s) : Calls Try.prog 17 #[.pointer (some ⟨g1, 0, none⟩)] w fun e w' => e = .returned (.int .i64 c) ∧ Both w0 w' g1 g2 S c A s :=
  (octet_Reader_Code.calls g1 s c c s c w0 w h.1 h.2.2.2.1 rfl).mono fun _ _ ⟨he, hi, hb, hk⟩ => ⟨he, hi, keep2 h.2.1 hk h.2.2.1, h.2.2.1, hb, h.2.2.2.2⟩
theorem Both.done1 (h : Both w0 w g1 g2 S c A s) : Calls Try.prog 21 #[.pointer (some ⟨g1, 0, none⟩)] w fun e w' => e = .returned (.int .i64 (dnR s c)) ∧ Both w0 w' g1 g2 S c A s :=
  (octet_Reader_Done.calls g1 s c (dnR s c) s c w0 w h.1 h.2.2.2.1 (dn1 s c)).mono fun _ _ ⟨he, hi, hb, hk⟩ => ⟨he, hi, keep2 h.2.1 hk h.2.2.1, h.2.2.1, hb, h.2.2.2.2⟩
theorem Both.left2 (hS : S.size ≤ 1073741824) (h : Both w0 w g1 g2 S c A s) : Calls Try.prog 20 #[.pointer (some ⟨g2, 0, none⟩)] w fun e w' => e = .returned (.int .i64 (s.size : Int)) ∧ Both w0 w' g1 g2 S c A s :=
  (gongref01_Reader_Left.calls g2 S (A : Int) c (s.size : Int) S (A : Int) c w0 w h.2.1 h.2.2.2.1 (both_Left hS h.2.2.2.2 c).2).mono fun _ _ ⟨he, hi, hb, hk⟩ => ⟨he, keep1 h.1 hk h.2.2.1, hi, h.2.2.1, hb, h.2.2.2.2⟩
theorem Both.done2 (h : Both w0 w g1 g2 S c A s) : Calls Try.prog 22 #[.pointer (some ⟨g2, 0, none⟩)] w fun e w' => e = .returned (.int .i64 (dnR s c)) ∧ Both w0 w' g1 g2 S c A s :=
  (gongref01_Reader_Done.calls g2 S (A : Int) c (dnR s c) S (A : Int) c w0 w h.2.1 h.2.2.2.1 (dn2 h.2.2.2.2 c)).mono fun _ _ ⟨he, hi, hb, hk⟩ => ⟨he, keep1 h.1 hk h.2.2.1, hi, h.2.2.1, hb, h.2.2.2.2⟩
end
set_option maxHeartbeats 4000000 in
set_option maxRecDepth 100000 in
theorem gonglaw01_OctetReads.calls (S : ByteArray) (A1 : Option Addr) (c1 : Nat) (l : List S41) (r : Bool) (w : World) (hr1 : Kd.C k41 w A1 l.length l) (hc1 : l.length ≤ c1) (h : r = true ∧ l.length ≤ 140737488351232) :
    Calls Try.prog 5 #[.string S, .slice A1 l.length c1] w fun e w' => e = .returned (.bool r) ∧ Below w.heap.size w w' := by
  obtain ⟨rfl, hll⟩ := h
  have HW := Lib.hid Go.Proofs.Ytbeegnajghkhoaa.OctF.works_f
  have HL := Aside0.mk hr1
  have HC := Lib.hid hc1
  have HN := Lib.hid hll
  clear hr1 hc1 hll
  by_cases h5 : 5000 < S.size
  · have h5b : (5000 : Int) < (S.size : Int) := by omega
    go_enter Try.func5, Try.ntmps5
    go_wp2_with fail
    refine (gonglaw01_works.calls true w HW.out).mono ?_
    rintro e W1 ⟨rfl, hb⟩
    go_wp2
    go_ret
    exact ⟨rfl, hb⟩
  · have h5b : (S.size : Int) ≤ 5000 := by omega
    have HS := Lib.hid (show S.size ≤ 1073741824 by omega)
    clear h5
    go_enter Try.func5, Try.ntmps5
    go_wp2_with fail
    refine (octet_Read.calls S S 0 w w (Below.refl _ _) rfl).mono ?_
    rintro e W1 ⟨g1, rfl, hi, hb, _⟩
    have hlt := hi.lt
    have B0 := Aside0.mk (show Both w (W1.alloc (.cells #[.string S, .int .i64 0, .int .i64 0] 38)) g1 W1.heap.size S 0 0 S from ⟨hi.alloc _, IsS38.new w W1 S 0 0 hb, by omega, hb.alloc hb.size _, Rel.start S⟩)
    have hg2 : W1.heap.size = W1.heap.size := rfl
    clear hi hb hlt
    go_wp2_with fail
    refine (gonglaw01_works.calls true _ HW.out).mono ?_
    rintro e W2 ⟨rfl, hb⟩
    have B1 := Aside0.mk (show Both w W2 g1 W1.heap.size S 0 0 S from ⟨B0.out.1.below hb, B0.out.2.1.below hb, B0.out.2.2.1, below_then B0.out.below B0.out.below.size hb, B0.out.2.2.2.2⟩)
    clear hb B0 hg2
    generalize W1.heap.size = g2 at B1
    go_wp2_with fail
    go_loopw [7] (fun v7 wr => ∃ (i : Nat) (s : ByteArray) (c : Int) (A : Nat), v7 = .int .i64 i ∧ i ≤ l.length ∧ i ≤ 40 ∧ Aside0 (Both w wr g1 g2 S c A s)) (fun v7 _ => 40 - (intOf v7).toNat)
    case atStart => exact ⟨0, S, 0, 0, rfl, by omega, by omega, B1⟩
    case round =>
      obtain ⟨i, s, c, A, rfl, hi1, hi2, BO⟩ := hrel
      clear B1
      by_cases hlt : i < l.length
      · have hltb : decide ((i : Int) < (l.length : Int)) = true := decide_eq_true (by omega)
        have hltn : decide (i < l.length) = true := decide_eq_true hlt
        by_cases h40 : i < 40
        · have h40b : decide ((i : Int) < 40) = true := decide_eq_true (by omega)
          obtain ⟨ad, ea, y0, y1⟩ := at_T41 HL.out (i : Int) (by omega) (by omega)
          subst ea
          rw [Int.toNat_natCast] at y0 y1
          have x0 := (BO.out.below.cell (World.block_lt_of_cell? w _ y0)).trans y0
          have x1 := (BO.out.below.cell (World.block_lt_of_cell? w _ y1)).trans y1
          generalize (rd_T41 l (i : Int)).f0 = kd at y0 x0
          generalize (rd_T41 l (i : Int)).f1 = n at y1 x1
          go_upto_region 9 with (fail)
          go_region_with (first | (go_at_call 19; refine (asked_calls w _ g1 g2 S s c A kd n HS.out (by first | exact BO.out | exact BO.out.drew1)).mono ?_; rintro e Wa ⟨rfl, s2, c2, A2, bo⟩; have Ba := Aside0.mk bo; have xa0 := (bo.below.cell (World.block_lt_of_cell? w _ y0)).trans y0; have xa1 := (bo.below.cell (World.block_lt_of_cell? w _ y1)).trans y1; have ea := bo.e; clear bo) | (go_at_call 18; refine (Both.left1 (g2 := g2) (by first | exact Ba.out | exact Ba.out.drew1)).mono ?_; rintro e Wb ⟨rfl, bo⟩; have Bb := Aside0.mk bo; have xb0 := (bo.below.cell (World.block_lt_of_cell? w _ y0)).trans y0; have xb1 := (bo.below.cell (World.block_lt_of_cell? w _ y1)).trans y1; have eb := bo.e; clear bo) | (go_at_call 20; refine (Both.left2 HS.out (by first | exact Bb.out | exact Bb.out.drew1)).mono ?_; rintro e Wc ⟨rfl, bo⟩; have Bc := Aside0.mk bo; have xc0 := (bo.below.cell (World.block_lt_of_cell? w _ y0)).trans y0; have xc1 := (bo.below.cell (World.block_lt_of_cell? w _ y1)).trans y1; have ec := bo.e; clear bo) | (go_at_call 17; refine (Both.code1 (g2 := g2) (by first | exact Bc.out | exact Bc.out.drew1)).mono ?_; rintro e Wd ⟨rfl, bo⟩; have Bd := Aside0.mk bo; have xd0 := (bo.below.cell (World.block_lt_of_cell? w _ y0)).trans y0; have xd1 := (bo.below.cell (World.block_lt_of_cell? w _ y1)).trans y1; have ed := bo.e; clear bo) | (go_at_call 21; refine (Both.done1 (g2 := g2) (by first | exact Bd.out | exact Bd.out.drew1)).mono ?_; rintro e We ⟨rfl, bo⟩; have Be := Aside0.mk bo; have xe0 := (bo.below.cell (World.block_lt_of_cell? w _ y0)).trans y0; have xe1 := (bo.below.cell (World.block_lt_of_cell? w _ y1)).trans y1; clear bo) | (go_at_call 22; refine (Both.done2 (g2 := g2) (by first | exact Be.out | exact Be.out.drew1)).mono ?_; rintro e Wf ⟨rfl, bo⟩; have Bf := Aside0.mk bo; have xf0 := (bo.below.cell (World.block_lt_of_cell? w _ y0)).trans y0; have xf1 := (bo.below.cell (World.block_lt_of_cell? w _ y1)).trans y1; clear bo))
          all_goals
            go_wp2_with fail
            exact ⟨⟨i + 1, s2, c2, A2, rfl, by omega, by omega, Bf⟩, by simp [intOf]; omega⟩
        · have h40b : decide ((i : Int) < 40) = false := decide_eq_false (by omega)
          clear HL HC HN
          have e0 := BO.out.e
          go_upto_region 11 with (fail)
          go_region_held3 (fun w' => w'.cell? ⟨g2, 2, none⟩ = some (.int .i64 c)) (first | exact ee | exact ed | exact ec | exact eb | exact ea | exact e0) (first | (go_at_call 18; refine (Both.left1 (g2 := g2) (by first | exact BO.out | exact BO.out.drew1)).mono ?_; rintro e Wa ⟨rfl, bo⟩; have Ba := Aside0.mk bo; have ea := bo.e; clear bo) | (go_at_call 20; refine (Both.left2 HS.out (by first | exact Ba.out | exact Ba.out.drew1)).mono ?_; rintro e Wb ⟨rfl, bo⟩; have Bb := Aside0.mk bo; have eb := bo.e; clear bo) | (go_at_call 17; refine (Both.code1 (g2 := g2) (by first | exact Bb.out | exact Bb.out.drew1)).mono ?_; rintro e Wc ⟨rfl, bo⟩; have Bc := Aside0.mk bo; have ec := bo.e; clear bo) | (go_at_call 21; refine (Both.done1 (g2 := g2) (by first | exact Bc.out | exact Bc.out.drew1)).mono ?_; rintro e Wd ⟨rfl, bo⟩; have Bd := Aside0.mk bo; have ed := bo.e; clear bo) | (go_at_call 22; refine (Both.done2 (g2 := g2) (by first | exact Bd.out | exact Bd.out.drew1)).mono ?_; rintro e We ⟨rfl, bo⟩; have Be := Aside0.mk bo; have ee := bo.e; clear bo))
          go_wp2_with fail
          go_ret
          exact ⟨by first | rfl | simp, Be.out.below⟩
      · have hltb : decide ((i : Int) < (l.length : Int)) = false := decide_eq_false (by omega)
        have hltn : decide (i < l.length) = false := decide_eq_false hlt
        clear HL HC HN
        have e0 := BO.out.e
        go_upto_region 11 with (fail)
        go_region_held3 (fun w' => w'.cell? ⟨g2, 2, none⟩ = some (.int .i64 c)) (first | exact ee | exact ed | exact ec | exact eb | exact ea | exact e0) (first | (go_at_call 18; refine (Both.left1 (g2 := g2) (by first | exact BO.out | exact BO.out.drew1)).mono ?_; rintro e Wa ⟨rfl, bo⟩; have Ba := Aside0.mk bo; have ea := bo.e; clear bo) | (go_at_call 20; refine (Both.left2 HS.out (by first | exact Ba.out | exact Ba.out.drew1)).mono ?_; rintro e Wb ⟨rfl, bo⟩; have Bb := Aside0.mk bo; have eb := bo.e; clear bo) | (go_at_call 17; refine (Both.code1 (g2 := g2) (by first | exact Bb.out | exact Bb.out.drew1)).mono ?_; rintro e Wc ⟨rfl, bo⟩; have Bc := Aside0.mk bo; have ec := bo.e; clear bo) | (go_at_call 21; refine (Both.done1 (g2 := g2) (by first | exact Bc.out | exact Bc.out.drew1)).mono ?_; rintro e Wd ⟨rfl, bo⟩; have Bd := Aside0.mk bo; have ed := bo.e; clear bo) | (go_at_call 22; refine (Both.done2 (g2 := g2) (by first | exact Bd.out | exact Bd.out.drew1)).mono ?_; rintro e We ⟨rfl, bo⟩; have Be := Aside0.mk bo; have ee := bo.e; clear bo))
        go_wp2_with fail
        go_ret
        exact ⟨by first | rfl | simp, Be.out.below⟩
end Go.Proofs.Ytbeegnajghkhoaa.Px
namespace Go.Proofs.Ytbeegnajghkhoaa.Pure
theorem OctetReads (S : ByteArray) (l : List Px.S41) (_ : S.size ≤ 140737488351232) (_ : ∀ x ∈ l, (Lit.int .i64 x.f0).wf = true ∧ (Lit.int .i64 x.f1).wf = true) (h : l.length * 16 ≤ 140737488351232) : true = true ∧ l.length ≤ 140737488351232 := ⟨rfl, by omega⟩
end Go.Proofs.Ytbeegnajghkhoaa.Pure
end
/-! Opens -/
section
/- What came in and can be read as data is what the print's kinds say: whole numbers, bools, texts, structs, slices, in one another. -/
namespace Go.Proofs.Ytbeegnajghkhoaa.Open
open Go Go.RowKit Go.Proofs.YtbeegnajghkhoaaW.PrintWords

def Opens {α : Type} (d : Kd α) (P : Program) (t : TypeId) (WF : α → Prop) : Prop :=
  P.cellsOf t = d.sz ∧ ∀ (H : Type) (enc : TypeId × Value → H) (W : World) (base : Nat) (sp : Nat → Bool) (held : Bool) (fuel : Nat) (cs : List Value) (y : DataW H) (p : List MemPlace),
    DataW.trod enc P W base sp held fuel t cs = some (y, p) → (∀ n ∈ y.weights P t, n ≤ reachBytes) → ∃ x, d.K W x cs ∧ WF x

theorem int {P : Program} {t : TypeId} {k : IntKind} (h : P.underlying t = some (.int k)) (hc : P.cellsOf t = 1) : Opens (Kd.int k) P t (fun n => (Lit.int k n).wf = true) := by
  refine ⟨hc, fun H enc W base sp held fuel cs y p ht _ => ?_⟩
  obtain ⟨n, rfl, _, hw⟩ := DataW.trod_int h ht
  exact ⟨n, rfl, hw⟩
theorem bool {P : Program} {t : TypeId} (h : P.underlying t = some .bool) (hc : P.cellsOf t = 1) : Opens Kd.bool P t (fun _ => True) := by
  refine ⟨hc, fun H enc W base sp held fuel cs y p ht _ => ?_⟩
  cases fuel with
  | zero => simp [DataW.trod] at ht
  | succ fuel =>
    simp only [DataW.trod, h] at ht
    split at ht <;> first | (rename_i h1 h2; cases h1) | skip
    all_goals first | (cases ht; done) | skip
    all_goals simp_all
    · exact .inl rfl
    · exact .inr rfl
theorem string {P : Program} {t : TypeId} (h : P.underlying t = some .string) (hc : P.cellsOf t = 1) : Opens Kd.string P t (fun s => s.size ≤ 140737488351232) := by
  refine ⟨hc, fun H enc W base sp held fuel cs y p ht hw => ?_⟩
  obtain ⟨s, rfl, he, hs⟩ := DataW.trod_string h ht
  obtain ⟨rfl, rfl⟩ := Prod.mk.inj he
  refine ⟨s, rfl, ?_⟩
  have := hw s.data.toList.length (by simp [DataW.weights])
  have h2 : reachBytes = 140737488351232 := rfl
  rw [h2] at this
  simpa using this

theorem choose_list {α : Type} {Q : Nat → α → Prop} : ∀ n, (∀ i, i < n → ∃ x, Q i x) → ∃ l : List α, l.length = n ∧ ∀ i x, l[i]? = some x → Q i x
  | 0, _ => ⟨[], rfl, fun i x h => by simp at h⟩
  | n + 1, h => by
    obtain ⟨l, hl, hq⟩ := choose_list n (fun i hi => h i (by omega))
    obtain ⟨x, hx⟩ := h n (by omega)
    refine ⟨l ++ [x], by simp [hl], fun i y hy => ?_⟩
    rcases Nat.lt_trichotomy i n with hlt | rfl | hgt
    · rw [List.getElem?_append_left (by omega)] at hy
      exact hq i y hy
    · rw [List.getElem?_append_right (by omega), hl] at hy
      simp at hy
      subst hy
      exact hx
    · rw [List.getElem?_append_right (by omega)] at hy
      rw [List.getElem?_eq_none (by simp; omega)] at hy
      cases hy

theorem weights_all {H : Type} {P : Program} {e : TypeId} : ∀ {l : List (DataW H)} {i : Nat} {d : DataW H}, l[i]? = some d → ∀ n ∈ d.weights P e, n ∈ DataW.weightsAll P e l
  | x :: l, 0, d, h, n, hn => by
    simp only [List.getElem?_cons_zero, Option.some.injEq] at h
    subst h
    simp only [DataW.weightsAll, List.mem_append]
    exact .inl hn
  | x :: l, i + 1, d, h, n, hn => by
    simp only [List.getElem?_cons_succ] at h
    simp only [DataW.weightsAll, List.mem_append]
    exact .inr (weights_all h n hn)
  | [], _, _, h, _, _ => by simp at h

theorem cells_at {w : World} {base : Nat} {a : Addr} {n : Nat} {cs : List Value} (h : w.cells? base a n = some cs) : cs.length = n ∧ ∀ j u, cs[j]? = some u → w.cell? (a.add j) = some u := by
  unfold World.cells? at h
  split at h
  · have hl := Lib.mapM_length h
    simp at hl
    refine ⟨hl, fun j u hu => ?_⟩
    have hj : j < n := by
      rcases Nat.lt_or_ge j n with h' | h'
      · exact h'
      · rw [List.getElem?_eq_none (by omega)] at hu
        cases hu
    obtain ⟨b, hb, hf⟩ := Lib.mapM_at h j j (by simp [hj])
    rw [hu] at hb
    injection hb with hb
    subst hb
    exact hf
  · cases h

/-- A slice's elements, up to its length. -/
theorem slice_elems {α : Type} {d : Kd α} {P : Program} {t e : TypeId} {WF : α → Prop} (ht : P.underlying t = some (.slice e)) (hd : Opens d P e WF)
    {H : Type} {enc : TypeId × Value → H} {W : World} {base : Nat} {sp : Nat → Bool} {held : Bool} {fuel : Nat} {A : Option Addr} {len cap : Nat} {y : DataW H} {p : List MemPlace}
    (h : DataW.trod enc P W base sp held fuel t [.slice A len cap] = some (y, p)) (hw : ∀ n ∈ y.weights P t, n ≤ reachBytes) :
    ∃ l : List α, l.length = len ∧ Kd.C d W A len l ∧ len ≤ cap ∧ (∀ x ∈ l, WF x) ∧ len * P.bytesOf e ≤ 140737488351232 := by
  cases fuel with
  | zero => simp [DataW.trod] at h
  | succ fuel =>
    cases A with
    | none =>
      have h' := h
      simp only [DataW.trod, ht] at h'
      split at h' <;> simp_all
      exact Kd.C_nil d W
    | some a =>
      simp only [DataW.trod, ht] at h
      split at h
      · rename_i hb
        obtain ⟨elems, hm, h⟩ := Option.bind_eq_some_iff.1 h
        obtain ⟨rest, hr, h⟩ := Option.map_eq_some_iff.1 h
        simp only [Prod.mk.injEq] at h
        obtain ⟨rfl, rfl⟩ := h
        have hel : elems.length = len := by simpa using Lib.mapM_length hm
        simp only [DataW.weights, ht, List.mem_cons, List.mem_append] at hw
        have hsz := hw _ (.inl rfl)
        simp only [List.length_map, hel] at hsz
        have hex : ∀ i, i < len → ∃ x, (∃ c, c.length = d.sz ∧ d.K W x c ∧ ∀ j u, c[j]? = some u → W.cell? (a.add (i * d.sz + j)) = some u) ∧ WF x := by
          intro i hi
          obtain ⟨b, hb', hf⟩ := Lib.mapM_at hm i i (by simp [hi])
          obtain ⟨c, hc, hf⟩ := Option.bind_eq_some_iff.1 hf
          obtain ⟨hcl, hcell⟩ := cells_at hc
          obtain ⟨yb, pb⟩ := b
          obtain ⟨x, hx, hwf⟩ := hd.2 H enc W base sp held fuel c yb pb hf (fun n hn => hw n (.inr (.inl (weights_all (i := i) (d := yb) (by simp [hb']) n hn))))
          rw [hd.1] at hcell hcl
          exact ⟨x, ⟨c, hcl, hx, fun j u hu => by rw [← hcell j u hu, Addr.add_add]⟩, hwf⟩
        obtain ⟨l, hl, hq⟩ := choose_list len hex
        refine ⟨l, hl, ⟨hl, by have := hb.2; unfold maxLen at this; omega, fun _ => ⟨a, rfl, fun j x hx => (hq j x hx).1⟩⟩, hb.2.1, fun x hx => ?_, ?_⟩
        · obtain ⟨i, hi⟩ := List.mem_iff_getElem?.1 hx
          exact (hq i x hi).2
        · have h1 : len * P.bytesOf e ≤ (len + rest.length) * P.bytesOf e := Nat.mul_le_mul_right _ (by omega)
          have h2 : reachBytes = 140737488351232 := rfl
          omega
      · cases h
theorem slice {α : Type} {d : Kd α} {P : Program} {t e : TypeId} {WF : α → Prop} (ht : P.underlying t = some (.slice e)) (hd : Opens d P e WF) (hc : P.cellsOf t = 1) :
    Opens (Kd.slice e d) P t (fun l => (∀ x ∈ l, WF x) ∧ l.length * P.bytesOf e ≤ 140737488351232) := by
  refine ⟨hc, fun H enc W base sp held fuel cs y p h hw => ?_⟩
  have hform : ∃ A len cap, cs = [.slice A len cap] := by
    cases fuel with
    | zero => simp [DataW.trod] at h
    | succ fuel =>
      have h' := h
      simp only [DataW.trod, ht] at h'
      split at h' <;> first | exact ⟨_, _, _, rfl⟩ | (simp_all; done) | skip
      all_goals (simp_all)
  obtain ⟨A, len, cap, rfl⟩ := hform
  obtain ⟨l, hl, hC, hcap, hwf, hb⟩ := slice_elems ht hd h hw
  subst hl
  exact ⟨l, ⟨A, cap, rfl, hcap, hC⟩, hwf, hb⟩

/-- A struct's fields from one place on. -/
def Fields {α : Type} (d : Kd α) (P : Program) (fs : List Field) (o : Nat) (WF : α → Prop) : Prop :=
  ∀ (H : Type) (enc : TypeId × Value → H) (W : World) (base : Nat) (sp : Nat → Bool) (held : Bool) (fuel : Nat) (cs : List Value) (xs : List (DataW H × List MemPlace)), cs.length = o + d.sz →
    (fs.mapM fun f => DataW.trod enc P W base sp held fuel f.type ((cs.drop f.offset).take (P.cellsOf f.type))) = some xs → (∀ n ∈ DataW.weightsEach P (fs.map (·.type)) (xs.map (·.1)), n ≤ reachBytes) → ∃ x, d.K W x (cs.drop o) ∧ WF x
theorem field_last {α : Type} {d : Kd α} {P : Program} {f : Field} {o : Nat} {WF : α → Prop} (ho : f.offset = o) (hd : Opens d P f.type WF) : Fields d P [f] o WF := by
  intro H enc W base sp held fuel cs xs hl hm hw
  simp only [List.mapM_cons, List.mapM_nil, Option.bind_eq_bind, Option.bind_eq_some_iff, Option.pure_def, Option.some.injEq] at hm
  obtain ⟨⟨y, p⟩, hy, _, rfl, rfl⟩ := hm
  rw [ho, hd.1, List.take_of_length_le (by simp; omega)] at hy
  exact hd.2 H enc W base sp held fuel _ y p hy (fun n hn => hw n (by simp [DataW.weightsEach, hn]))
theorem field_more {α β : Type} {d0 : Kd α} {d1 : Kd β} {P : Program} {f : Field} {fs : List Field} {o : Nat} {WF0 : α → Prop} {WF1 : β → Prop} (ho : f.offset = o) (h0 : Opens d0 P f.type WF0) (h1 : Fields d1 P fs (o + d0.sz) WF1) :
    Fields (Kd.pair d0 d1) P (f :: fs) o (fun x => WF0 x.1 ∧ WF1 x.2) := by
  intro H enc W base sp held fuel cs xs hl hm hw
  simp only [List.mapM_cons, Option.bind_eq_bind, Option.bind_eq_some_iff, Option.pure_def, Option.some.injEq] at hm
  obtain ⟨⟨y, p⟩, hy, ys, hys, rfl⟩ := hm
  have hl' : cs.length = (o + d0.sz) + d1.sz := by rw [hl]; show o + (d0.sz + d1.sz) = _; omega
  rw [ho, h0.1] at hy
  obtain ⟨x0, hx0, hw0⟩ := h0.2 H enc W base sp held fuel _ y p hy (fun n hn => hw n (by simp [DataW.weightsEach, hn]))
  obtain ⟨x1, hx1, hw1⟩ := h1 H enc W base sp held fuel cs ys hl' hys (fun n hn => hw n (by simp only [List.map_cons, DataW.weightsEach, List.mem_append]; exact .inr hn))
  refine ⟨(x0, x1), ⟨(cs.drop o).take d0.sz, cs.drop (o + d0.sz), ?_, hx0, hx1⟩, hw0, hw1⟩
  rw [← List.drop_drop, List.take_append_drop]
theorem struct {α β : Type} {d : Kd α} {P : Program} {t : TypeId} {fs : Array Field} {WF : α → Prop} (ht : P.underlying t = some (.struct fs)) (hc : P.cellsOf t = d.sz) (hf : Fields d P fs.toList 0 WF) (f : β → α) (g : α → β) (hg : ∀ y, f (g y) = y) :
    Opens (Kd.iso d f) P t (fun b => WF (f b)) := by
  refine ⟨hc, fun H enc W base sp held fuel cs y p h hw => ?_⟩
  cases fuel with
  | zero => simp [DataW.trod] at h
  | succ fuel =>
    simp only [DataW.trod, ht] at h
    split at h
    · rename_i hl
      obtain ⟨xs, hm, hx⟩ := Option.map_eq_some_iff.1 h
      simp only [Prod.mk.injEq] at hx
      obtain ⟨rfl, rfl⟩ := hx
      obtain ⟨x, hK, hwf⟩ := hf H enc W base sp held fuel cs xs (by omega) hm (fun n hn => hw n (by simpa [DataW.weights, ht] using hn))
      rw [List.drop_zero] at hK
      exact ⟨g x, by show d.K W (f (g x)) cs; rw [hg]; exact hK, by show WF (f (g x)); rw [hg]; exact hwf⟩
    · cases h
/-- An argument that is a slice. -/
theorem slice_arg {α : Type} {d : Kd α} {P : Program} {t e : TypeId} {WF : α → Prop} (ht : P.underlying t = some (.slice e)) (hd : Opens d P e WF)
    {H : Type} {enc : TypeId × Value → H} {W : World} {base : Nat} {sp : Nat → Bool} {held : Bool} {A : Option Addr} {len cap : Nat} {y : DataW H} {p : List MemPlace} {ts : List TypeId} {ds : List (DataW H)}
    (h : DataW.Trod enc P W base sp held t (.slice A len cap) y p) (hsz : (DataW.weightsEach P ts ds).all (· ≤ reachBytes) = true) {j : Nat} (htj : ts[j]? = some t) (hdj : ds[j]? = some y) :
    ∃ l : List α, len = l.length ∧ Kd.C d W A l.length l ∧ l.length ≤ cap ∧ (∀ x ∈ l, WF x) ∧ l.length * P.bytesOf e ≤ 140737488351232 := by
  obtain ⟨fuel, hf⟩ := h
  have hw : ∀ n ∈ y.weights P t, n ≤ reachBytes := fun n hn => by simpa using List.all_eq_true.1 hsz n (DataW.weights_mem_each htj hdj n hn)
  obtain ⟨l, hl, hC, hcap, hwf, hb⟩ := slice_elems ht hd (by simpa [Value.cells] using hf) hw
  subst hl
  exact ⟨l, rfl, hC, hcap, hwf, hb⟩
/-- An argument that is a struct or an array by value. -/
theorem agg_arg {α : Type} {d : Kd α} {P : Program} {t : TypeId} {WF : α → Prop} (hd : Opens d P t WF)
    {H : Type} {enc : TypeId × Value → H} {W : World} {base : Nat} {sp : Nat → Bool} {held : Bool} {cs : Array Value} {y : DataW H} {p : List MemPlace} {ts : List TypeId} {ds : List (DataW H)}
    (h : DataW.Trod enc P W base sp held t (.agg cs) y p) (hsz : (DataW.weightsEach P ts ds).all (· ≤ reachBytes) = true) {j : Nat} (htj : ts[j]? = some t) (hdj : ds[j]? = some y) :
    ∃ x, d.K W x cs.toList ∧ WF x := by
  obtain ⟨fuel, hf⟩ := h
  have hw : ∀ n ∈ y.weights P t, n ≤ reachBytes := fun n hn => by simpa using List.all_eq_true.1 hsz n (DataW.weights_mem_each htj hdj n hn)
  exact hd.2 H enc W base sp held fuel cs.toList y p (by simpa [Value.cells] using hf) hw
theorem okWide_array {P : Program} {w : World} {r : Reach} {base : Nat} {t e : TypeId} {n : Nat} {v : Value} (ht : P.underlying t = some (.array n e)) (h : Value.okWide P w r base t v) : ∃ cs, v = .agg cs ∧ cs.size = P.cellsOf t := by
  simp only [Value.okWide, ht] at h
  obtain ⟨cs, h1, h2, _⟩ := h
  exact ⟨cs, h1, h2⟩
theorem array2 {α : Type} {d : Kd α} {P : Program} {t e : TypeId} {WF : α → Prop} (ht : P.underlying t = some (.array 2 e)) (hd : Opens d P e WF) (hc : P.cellsOf t = d.sz + d.sz) :
    Opens (Kd.pair d d) P t (fun x => WF x.1 ∧ WF x.2) := by
  refine ⟨hc, fun H enc W base sp held fuel cs y p h hw => ?_⟩
  cases fuel with
  | zero => simp [DataW.trod] at h
  | succ n =>
    simp only [DataW.trod, ht] at h
    split at h
    · rename_i hl
      obtain ⟨xs, hm, hx⟩ := Option.map_eq_some_iff.1 h
      simp only [Prod.mk.injEq] at hx
      obtain ⟨rfl, rfl⟩ := hx
      have r2 : List.range 2 = [0, 1] := rfl
      simp only [r2, List.mapM_cons, List.mapM_nil, Option.bind_eq_bind, Option.bind_eq_some_iff, Option.pure_def, Option.some.injEq] at hm
      obtain ⟨⟨y0, p0⟩, h0, ys, ⟨⟨y1, p1⟩, h1, zs, rfl, rfl⟩, rfl⟩ := hm
      rw [hd.1] at h0 h1
      simp only [DataW.weights, ht, List.map_cons, List.map_nil, DataW.weightsAll, List.mem_append] at hw
      obtain ⟨x0, k0, w0⟩ := hd.2 H enc W base sp held n _ y0 p0 h0 (fun m hm => hw m (.inl hm))
      obtain ⟨x1, k1, w1⟩ := hd.2 H enc W base sp held n _ y1 p1 h1 (fun m hm => hw m (.inr (.inl hm)))
      refine ⟨(x0, x1), ⟨_, _, ?_, k0, k1⟩, w0, w1⟩
      rw [Nat.zero_mul, List.drop_zero, Nat.one_mul, List.take_of_length_le (l := cs.drop d.sz) (by rw [List.length_drop]; omega), List.take_append_drop]
    · cases h
end Go.Proofs.Ytbeegnajghkhoaa.Open
end
/-! ROctetReads -/
section
/- OctetReads: for every input that the row speaks of the law returns true, and what came in reads as it did. No condition beside the form's own reach. -/
namespace Go.Proofs.Ytbeegnajghkhoaa.octetReads
open Go.ChangeShapes Go.WideShapes Go.ChangeAt Go.RowKit Go.Proofs.YtbeegnajghkhoaaW.PrintWords
open Go.ChangeMaps (open_string shut_string)
theorem own : ownKnob Try.prog.godebug = none := by kernel_rfl
theorem laidOut : laidOutB Try.prog = true := by kernel_rfl
set_option maxRecDepth 100000 in
theorem lifted (os : Os) (started : os.Started) (H : Type) (enc : TypeId × Value → H) :
    ReturnsInHanded {} Try.checked os 5 .any (Rows.octetReadsSpec.pre6 enc Try.prog Try.f5 Rows.octetReadsRow.domain false) (Rows.octetReadsSpec.post enc Try.prog Try.f5 false true false false) := by
  refine returnsInHanded_of_change_sized (C := Try.checked) own started (by kernel_rfl) Try.func5
    (ChangeSpec.witness6 (enc := enc) (C := Try.checked) false ⟨#[], #[.string ByteArray.empty, .slice none 0 0], []⟩ 8 (by kernel_rfl) (by kernel_rfl) (by kernel_rfl) (by kernel_rfl)) ?_
  intro W base args ds gs before hval0 hW _ hsz0 _
  have hsz : (DataW.weightsEach Try.prog (Try.f5.params.toList ++ Rows.octetReadsSpec.plain.varTypes Try.prog) (ds ++ gs)).all (· ≤ reachBytes) = true := hsz0
  have hval : ∀ (j : Nat) t v, Try.f5.params[j]? = some t → args[j]? = some v → Value.okWide Try.prog W .any base t v := hval0
  have hW' := hW
  obtain ⟨p, q, hA0, hV, rfl, hfz, hnd⟩ := hW
  have hA : DataW.TrodAll enc Try.prog W 0 (fun _ => true) true Try.f5.params.toList args.toList ds p := hA0
  rw [Try.params5] at hA hval hsz
  obtain ⟨v0, vs0, d0, ds0, p0, q0, hargs, rfl, rfl, h0, r0⟩ := trodAll_cons hA
  obtain ⟨v1, vs1, d1, ds1, p1, q1, rfl, rfl, rfl, h1, r1⟩ := trodAll_cons r0
  obtain ⟨rfl, rfl, rfl⟩ := trodAll_nil r1
  obtain rfl : args = #[v0, v1] := by cases args; simp_all
  obtain ⟨rfl, rfl⟩ := trodVars_none hV
  obtain ⟨a0, rfl, rfl, rfl, y0⟩ := open_string Try.underlying9 (hval 0 9 v0 rfl rfl) h0
  have w0 : a0.size ≤ 140737488351232 := by
    have z := sized_string hsz (j := 0) (t := 9) rfl rfl
    rw [Array.length_toList] at z
    exact z
  obtain ⟨a1, len1, cap1, rfl⟩ := okWide_slice Try.underlying35 (hval 1 35 v1 rfl rfl)
  have k1 := h1
  have lt1 : ∀ x ∈ p1, x.block < W.heap.size := by obtain ⟨m, hm⟩ := k1; exact DataW.trod_lt m _ _ _ hm
  obtain ⟨l1, rfl, hr1, hc1, wf1, y1⟩ := Open.slice_arg (d := Px.k41) Try.underlying35 (Open.struct Try.underlying41 (by kernel_rfl) (Open.field_more rfl (Open.int Try.underlying3 (by kernel_rfl)) (Open.field_last rfl (Open.int Try.underlying3 (by kernel_rfl)))) (fun x : Px.S41 => (x.f0, x.f1)) (fun y => ⟨y.1, y.2⟩) (fun _ => rfl)) h1 hsz (j := 1) (t := 35) rfl rfl
  clear hA0 hval0 hsz0 hsz
  have hk := Pure.OctetReads a0 l1 w0 wf1 y1
  refine (Px.gonglaw01_OctetReads.calls a0 _ _ l1 true W hr1 hc1 hk).mono fun e W' ⟨he, hd⟩ => ?_
  subst he
  have bel : Below W.heap.size W W' := hd
  exact ⟨_, rfl, _, _, _, [], _, [], hW', trodAll_mk1 (shut_bool Try.underlying4 _), (trodAll_cons_mk (shut_string Try.underlying9 y0) (trodAll_cons_mk (Below.trod laidOut (by kernel_rfl) (of_decide_eq_true (by kernel_rfl)) k1 bel lt1) trodAll_mk0)), rfl, bel.frame _, fun h => by cases h⟩
theorem over : Rows.octetReadsRow.holds Try.pinned (OpenSpec.ofChange Rows.octetReadsSpec) :=
  OpenClaim.holds_of_wide 5 Try.f5 rfl rfl rfl rfl rfl rfl rfl ⟨rfl, rfl, rfl, rfl, rfl⟩ rfl rfl rfl rfl rfl (by kernel_rfl) Try.func5 (by kernel_rfl)
    (of_decide_eq_true (by kernel_rfl)) (by unfold Func.isWrapper; first | (rw [if_pos (by decide +kernel)]; kernel_rfl) | (rw [if_neg (by decide +kernel)]; exact ⟨rfl, rfl⟩))
    (fun os started H enc _ => lifted os started H enc)
theorem proved : Rows.OctetReadsSaid := over
#print axioms proved
end Go.Proofs.Ytbeegnajghkhoaa.octetReads
namespace Go.Proofs.Ytbeegnajghkhoaa
/-- The row, under a short name, for the claim. -/
theorem octetReads_holds : Rows.OctetReadsSaid := octetReads.proved
end Go.Proofs.Ytbeegnajghkhoaa
end
