import Derived.Laws.Strings
import Derived.Laws.BytesArg
import Derived.Test.YtjhimmnogjmngaaDoorWWords
import Derived.Test.YtjhimmnogjmngaaDoorPx1
import Derived.Test.YtjhimmnogjmngaaDoorPx2
import Derived.Test.YtjhimmnogjmngaaDoorOct
import Derived.Test.YtjhimmnogjmngaaDoorPx3
import Derived.Test.YtjhimmnogjmngaaDoorPx4
import Derived.Lib.Hide
import Derived.Test.YtjhimmnogjmngaaDoorCrc
import Derived.Test.YtjhimmnogjmngaaDoorPx7
import Derived.Test.YtjhimmnogjmngaaDoorBRow
import Derived.Test.YtjhimmnogjmngaaDoorPx6
import Derived.Test.YtjhimmnogjmngaaDoorPx5
import Derived.Test.YtjhimmnogjmngaaDoorRows
import Derived.LaidMore
import Derived.Stop.Joined
import Derived.Lib.LaidTab
import Derived.WalkKit
import Derived.ProofKit
import Derived.OpenShut
import Derived.ShutString
import Derived.ChangeOld
import Derived.Below
import Derived.SizedLaws
import Derived.SevenTiedAt
import Derived.Test.YtjhimmnogjmngaaDoorTie
import Derived.Test.YtjhimmnogjmngaaDoorCards
/-! Str -/
section
/- Texts as lists of bytes. -/
namespace Go.Proofs.YtjhimmnogjmngaaDoor.Str
open Go Go.Proofs.YtjhimmnogjmngaaDoorW.PrintWords

theorem ext {s t : ByteArray} (h : s.data.toList = t.data.toList) : s = t := by
  cases s; cases t
  simp only at h
  congr
  exact Array.ext' h
theorem ext_iff {s t : ByteArray} : s = t ↔ s.data.toList = t.data.toList := ⟨fun h => by rw [h], ext⟩
theorem size_L (s : ByteArray) : s.size = s.data.toList.length := by simp
theorem toList_L (s : ByteArray) : s.toList = s.data.toList := ByteArray.toList_eq s
theorem toList_iff {s t : ByteArray} : s.toList = t.toList ↔ s = t := by rw [toList_L, toList_L, ext_iff]
theorem app_L (s t : ByteArray) : (s ++ t).data.toList = s.data.toList ++ t.data.toList := by simp
theorem extract_L (s : ByteArray) (a b : Nat) : (s.extract a b).data.toList = (s.data.toList.take b).drop a := by
  simp [List.drop_take]
theorem pre_L (s : ByteArray) (b : Nat) : (s.extract 0 b).data.toList = s.data.toList.take b := by rw [extract_L]; simp
theorem post_L (s : ByteArray) (a : Nat) : (s.extract a s.size).data.toList = s.data.toList.drop a := by
  rw [extract_L, List.take_of_length_le (by simp)]
theorem nums_L (xs : List Int) : (strOfNums xs).data.toList = xs.map fun n => UInt8.ofNat n.toNat := strOfNums_data xs
theorem nums_size (xs : List Int) : (strOfNums xs).size = xs.length := strOfNums_size xs
def ofL (l : List UInt8) : ByteArray := ⟨l.toArray⟩
@[simp] theorem ofL_L (l : List UInt8) : (ofL l).data.toList = l := rfl
@[simp] theorem ofL_size (l : List UInt8) : (ofL l).size = l.length := by simp [size_L]
theorem ofL_of (s : ByteArray) : ofL s.data.toList = s := ext rfl
theorem lit_L (l : List UInt8) : (⟨l.toArray⟩ : ByteArray).data.toList = l := rfl
theorem empty_iff (s : ByteArray) : s = ⟨#[]⟩ ↔ s.data.toList = [] := by rw [ext_iff]
theorem bt_L {s : ByteArray} {i : Nat} (h : i < s.size) : bt s (i : Int) = ((s.data.toList.getD i 0).toNat : Int) := by
  unfold bt
  rw [dif_pos (by simpa using h)]
  simp [List.getD, h]
  rfl
theorem bt_range (s : ByteArray) (i : Int) : 0 ≤ bt s i ∧ bt s i < 256 := by
  unfold bt
  split
  · rename_i h
    have := (s[i.toNat]'h).toNat_lt
    omega
  · omega
theorem wrap64_id {x : Int} (h0 : -9223372036854775808 ≤ x) (h1 : x < 9223372036854775808) : Go.RowKit.wrap64 x = x := by
  unfold Go.RowKit.wrap64
  omega
theorem wf_u32 {x : Int} (h : (Lit.int .u32 x).wf = true) : 0 ≤ x ∧ x < 4294967296 := by
  have e1 : IntKind.u32.min = 0 := rfl
  have e2 : IntKind.u32.max = 4294967295 := rfl
  simp [Lit.wf, e1, e2] at h
  omega
theorem wf_i64 {x : Int} (h : (Lit.int .i64 x).wf = true) : -9223372036854775808 ≤ x ∧ x ≤ 9223372036854775807 := by
  have e1 : IntKind.i64.min = -9223372036854775808 := rfl
  have e2 : IntKind.i64.max = 9223372036854775807 := rfl
  simp [Lit.wf, e1, e2] at h
  omega
theorem u8_nat (b : UInt8) : UInt8.ofNat ((b.toNat : Int)).toNat = b := by
  apply UInt8.toNat_inj.1
  have := b.toNat_lt
  simp
theorem map_u8 (l : List UInt8) : (l.map fun b => (b.toNat : Int)).map (fun n => UInt8.ofNat n.toNat) = l := by
  rw [List.map_map]
  conv => rhs; rw [← List.map_id l]
  apply List.map_congr_left
  intro b _
  exact u8_nat b
end Go.Proofs.YtjhimmnogjmngaaDoor.Str
end
/-! OctF -/
section
/- The printed functions of numbers and texts as bytes are the plain words on lists. -/
namespace Go.Proofs.YtjhimmnogjmngaaDoor.OctF
open Go Go.RowKit Go.Proofs.YtjhimmnogjmngaaDoor.Px Go.Proofs.YtjhimmnogjmngaaDoorW.PrintWords Go.Proofs.YtjhimmnogjmngaaDoor.Str

/-- A number's higher groups, and its groups. -/
def hi (n : Nat) : List UInt8 := if n = 0 then [] else hi (n / 128) ++ [UInt8.ofNat (n % 128 + 128)]
termination_by n
decreasing_by omega
def grp (n : Nat) : List UInt8 := hi (n / 128) ++ [UInt8.ofNat (n % 128)]
theorem hi_zero : hi 0 = [] := by rw [hi]; rfl
theorem hi_pos {n : Nat} (h : n ≠ 0) : hi n = hi (n / 128) ++ [UInt8.ofNat (n % 128 + 128)] := by
  rw [hi, if_neg h]
theorem toNat_ofNat {n : Nat} (h : n < 256) : (UInt8.ofNat n).toNat = n := by rw [UInt8.toNat_ofNat']; omega
theorem go_hi (f : Nat) : ∀ (n : Nat) (acc : List Int), n < 128 ^ f → (Oct.go f (n : Int) acc).map (fun n => UInt8.ofNat n.toNat) = hi n ++ acc.map (fun n => UInt8.ofNat n.toNat) := by
  induction f with
  | zero =>
    intro n acc h
    obtain rfl : n = 0 := by simpa using h
    rw [hi_zero]
    rfl
  | succ f ih =>
    intro n acc h
    by_cases h0 : n = 0
    · subst h0
      rw [show ((0 : Nat) : Int) = 0 from rfl, Oct.go_zero, hi_zero]
      rfl
    · rw [Oct.go_pos _ _ _ (by omega), show (n : Int) / 128 = ((n / 128 : Nat) : Int) by omega, ih (n / 128) _ (by rw [Nat.pow_succ] at h; omega), hi_pos h0, List.map_cons, List.append_assoc]
      congr 1
      rw [Oct.gB_eq]
      show _ = UInt8.ofNat (n % 128 + 128) :: _
      congr 2
theorem groups_ok (n : Nat) (h : n < 9223372036854775808) : octet_Groups.f (n : Int) = some (ofL (grp n), 0) := by
  unfold octet_Groups.f
  rw [if_neg (by omega), if_pos (by omega)]
  congr 2
  apply ext
  rw [nums_L, ofL_L]
  unfold Oct.groupsI
  rw [show (n : Int) / 128 = ((n / 128 : Nat) : Int) by omega, go_hi 8 (n / 128) _ (by omega)]
  unfold grp
  congr 1
theorem groups_no (n : Int) (h : n < 0) : octet_Groups.f n = some (⟨#[]⟩, 1) := by
  unfold octet_Groups.f
  rw [if_pos h]
theorem hi_length (d : Nat) : ∀ n, n < 128 ^ d → (hi n).length ≤ d := by
  induction d with
  | zero => intro n h; obtain rfl : n = 0 := by simpa using h
            rw [hi_zero]; simp
  | succ d ih =>
    intro n h
    by_cases h0 : n = 0
    · subst h0; rw [hi_zero]; simp
    · rw [hi_pos h0, List.length_append]
      have := ih (n / 128) (by rw [Nat.pow_succ] at h; omega)
      simp
      omega
theorem grp_length (n : Nat) (h : n < 9223372036854775808) : 1 ≤ (grp n).length ∧ (grp n).length ≤ 9 := by
  unfold grp
  have := hi_length 8 (n / 128) (by omega)
  simp
  omega

/-- A number's last w bytes, the highest first. -/
def be : Nat → Nat → List UInt8
  | 0, _ => []
  | w + 1, n => be w (n / 256) ++ [UInt8.ofNat n]
theorem be_length (w n : Nat) : (be w n).length = w := by
  induction w generalizing n with
  | zero => rfl
  | succ w ih => simp [be, ih]
theorem be_add (k w n : Nat) : be (k + w) n = be k (n / 256 ^ w) ++ be w n := by
  induction w generalizing n with
  | zero => simp [be]
  | succ w ih =>
    rw [← Nat.add_assoc]
    show be (k + w) (n / 256) ++ _ = _ ++ (be w (n / 256) ++ _)
    rw [ih, List.append_assoc, Nat.div_div_eq_div_mul, Nat.pow_succ, Nat.mul_comm 256]
theorem be_drop (k w n : Nat) : (be (k + w) n).drop k = be w n := by
  rw [be_add, List.drop_left' (be_length _ _)]
theorem wgo_be (f : Nat) : ∀ (n : Nat) (acc : List Int), (Oct.wgo f (n : Int) acc).map (fun n => UInt8.ofNat n.toNat) = be f n ++ acc.map (fun n => UInt8.ofNat n.toNat) := by
  induction f with
  | zero => intro n acc; rfl
  | succ f ih =>
    intro n acc
    show (Oct.wgo f ((n : Int) / 256) ((n : Int) % 256 :: acc)).map _ = _
    rw [show (n : Int) / 256 = ((n / 256 : Nat) : Int) by omega, ih, List.map_cons]
    show _ = (be f (n / 256) ++ [UInt8.ofNat n]) ++ _
    rw [List.append_assoc]
    congr 1
    show _ = UInt8.ofNat n :: _
    congr 1
    apply UInt8.toNat_inj.1
    rw [UInt8.toNat_ofNat', UInt8.toNat_ofNat']
    omega
theorem text_ok (s : ByteArray) (h : s.size ≤ 1073741824) : octet_Text.f s = some (ofL (grp s.size ++ s.data.toList)) := by
  unfold octet_Text.f
  rw [groups_ok s.size (by omega)]
  simp only [Option.bind_some]
  have := grp_length s.size (by omega)
  rw [ofL_size, if_pos (by omega)]
  congr 1

/-! ### Reading groups -/
/-- The number whose groups stand at the beginning; how many bytes these are; why not. -/
def pg (most : Int) : Nat → Nat → List UInt8 → Nat → Int × Int × Int
  | 0, _, _, _ => (0, 0, 3)
  | _ + 1, _, [], _ => (0, 0, 10)
  | f + 1, n, b :: r, i => if i = 0 ∧ b.toNat = 128 then (0, 0, 3) else if ((n * 128 + b.toNat % 128 : Nat) : Int) > most then (0, 0, 2) else if b.toNat < 128 then (((n * 128 + b.toNat % 128 : Nat) : Int), ((i + 1 : Nat) : Int), 0) else pg most f (n * 128 + b.toNat % 128) r (i + 1)
theorem andNot_u8 : ∀ b : Fin 256, Go.bits .andNot .u8 (b.val : Int) 128 = ((b.val % 128 : Nat) : Int) := by decide +kernel
theorem join7 (n b : Nat) (hn : n < 72057594037927936) (hb : b < 256) : Go.bits .or .i64 (wrap64 ((n : Int) * 128)) (wrap64 (Go.bits .andNot .u8 (b : Int) 128)) = ((n * 128 + b % 128 : Nat) : Int) := by
  have h := andNot_u8 ⟨b, hb⟩
  simp only at h
  rw [h, wrap64_id (by omega) (by omega), wrap64_id (by omega) (by omega)]
  rw [bits_join .i64 63 (by decide) (fun n h0 h1 => by rw [IntKind.wrap_i64]; omega) 7 ((n : Int) * 128) ((b % 128 : Nat) : Int) (by omega) (by omega) (by omega) (by omega) (by omega) (by omega)]
  omega
theorem groups_l0 (s : ByteArray) (most : Int) (d : Nat) : ∀ (k i n : Nat), i + d = 9 → i ≤ s.size → n < 128 ^ i → 2 * d + 1 ≤ k → octet_groups.l0 k s most (n : Int) (i : Int) = some (pg most d n (s.data.toList.drop i) i) := by
  induction d with
  | zero =>
    intro k i n hi hle hn hk
    obtain ⟨k, rfl⟩ : ∃ m, k = m + 1 := ⟨k - 1, by omega⟩
    simp only [octet_groups.l0]
    rw [if_neg (by omega)]
    rfl
  | succ d ih =>
    intro k i n hi hle hn hk
    obtain ⟨k, rfl⟩ : ∃ m, k = m + 2 := ⟨k - 2, by omega⟩
    have hn8 : n < 72057594037927936 := Nat.lt_of_lt_of_le hn (Nat.le_trans (Nat.pow_le_pow_right (by decide) (show i ≤ 8 by omega)) (by decide))
    simp only [octet_groups.l0]
    rw [if_pos (by omega)]
    by_cases he : i = s.size
    · rw [if_pos (by omega), List.drop_of_length_le (by simp; omega)]
      rfl
    · have hlt : i < s.size := by omega
      have hd : s.data.toList.drop i = s.data.toList[i]'(by simpa using hlt) :: s.data.toList.drop (i + 1) := List.drop_eq_getElem_cons (by simpa using hlt)
      have hb : bt s (i : Int) = ((s.data.toList[i]'(by simpa using hlt)).toNat : Int) := by
        rw [bt_L hlt]
        simp [List.getD, hlt]
      generalize s.data.toList[i]'(by simpa using hlt) = b at hd hb
      have hbl := b.toNat_lt
      rw [if_neg (by omega), if_pos (by omega), if_pos (by omega), hd, hb, join7 n b.toNat hn8 (by omega), wrap64_id (by omega) (by omega)]
      have hn' : n * 128 + b.toNat % 128 < 128 ^ (i + 1) := by rw [Nat.pow_succ]; omega
      have hj : ∀ q : Bool, q = decide (i = 0 ∧ b.toNat = 128) → octet_groups.j1 (k + 1) s most ((n * 128 + b.toNat % 128 : Nat) : Int) ((i : Int) + 1) (b.toNat : Int) q = some (pg most (d + 1) n (b :: s.data.toList.drop (i + 1)) i) := by
        intro q hq
        subst hq
        simp only [octet_groups.j1, pg, decide_eq_true_eq]
        by_cases c1 : i = 0 ∧ b.toNat = 128
        · rw [if_pos c1, if_pos c1]
        · rw [if_neg c1, if_neg c1]
          by_cases c2 : ((n * 128 + b.toNat % 128 : Nat) : Int) > most
          · rw [if_pos c2, if_pos c2]
          · rw [if_neg c2, if_neg c2]
            by_cases c3 : b.toNat < 128
            · rw [if_pos (by omega), if_pos c3]
              rfl
            · rw [if_neg (by omega), if_neg c3]
              exact ih k (i + 1) _ (by omega) (by omega) hn' (by omega)
      by_cases h0 : i = 0
      · rw [if_pos (by omega)]
        refine hj _ ?_
        by_cases h128 : b.toNat = 128
        · rw [decide_eq_true ⟨h0, h128⟩, h128]
          decide
        · rw [decide_eq_false (fun z => h128 z.2), beq_eq_false_iff_ne]
          omega
      · rw [if_neg (by omega)]
        exact hj _ (decide_eq_false (fun z => h0 z.1)).symm
def rdG (most : Int) (l : List UInt8) : Int × Int × Int := pg most 9 0 l 0
theorem groups_read (s : ByteArray) (most : Int) (k : Nat) (hk : 19 ≤ k) : octet_groups.f k s most = some (rdG most s.data.toList) := by
  unfold octet_groups.f
  have := groups_l0 s most 9 k 0 0 rfl (Nat.zero_le _) (by decide) (by omega)
  simpa [rdG] using this
/-- What is told of it: within the bytes; nothing beside an error. -/
theorem pg_long (most : Int) (f : Nat) : ∀ (n : Nat) (l : List UInt8) (i : Nat), 0 ≤ (pg most f n l i).2.1 ∧ (pg most f n l i).2.1 ≤ ((i + l.length : Nat) : Int) ∧ ((pg most f n l i).2.2 ≠ 0 → (pg most f n l i).1 = 0 ∧ (pg most f n l i).2.1 = 0) ∧ 0 ≤ (pg most f n l i).1 ∧ 0 ≤ (pg most f n l i).2.2 := by
  induction f with
  | zero => intro n l i; simp [pg]; omega
  | succ f ih =>
    intro n l i
    cases l with
    | nil => simp [pg]
    | cons b r =>
      simp only [pg]
      split
      · simp; omega
      · split
        · simp; omega
        · split
          · simp only [List.length_cons]
            refine ⟨by omega, by omega, fun h => absurd rfl h, by omega, by omega⟩
          · have := ih (n * 128 + b.toNat % 128) r (i + 1)
            simp only [List.length_cons]
            refine ⟨this.1, by omega, this.2.2.1, this.2.2.2⟩
theorem rdG_long (most : Int) (l : List UInt8) : 0 ≤ (rdG most l).2.1 ∧ (rdG most l).2.1 ≤ (l.length : Int) ∧ ((rdG most l).2.2 ≠ 0 → (rdG most l).1 = 0 ∧ (rdG most l).2.1 = 0) ∧ 0 ≤ (rdG most l).1 ∧ 0 ≤ (rdG most l).2.2 := by
  have := pg_long most 9 0 l 0
  simpa [rdG] using this
theorem rdG_most (most : Int) (f : Nat) : ∀ (n : Nat) (l : List UInt8) (i : Nat), 0 ≤ most → n < 128 ^ (9 - f) → f ≤ 9 → (pg most f n l i).1 ≤ most ∧ (pg most f n l i).1 < 9223372036854775808 := by
  induction f with
  | zero => intro n l i h _ _; simp [pg]; omega
  | succ f ih =>
    intro n l i h hn hf
    have hn' : n * 128 + 127 < 9223372036854775808 := by
      have : 128 ^ (9 - (f + 1)) * 128 ≤ 9223372036854775808 := by
        rw [← Nat.pow_succ]
        exact Nat.le_trans (Nat.pow_le_pow_right (by decide) (show 9 - (f + 1) + 1 ≤ 9 by omega)) (by decide)
      omega
    cases l with
    | nil => simp [pg]; omega
    | cons b r =>
      simp only [pg]
      split
      · simp; omega
      · split
        · simp; omega
        · split
          · simp only; omega
          · refine ih _ r _ h ?_ (by omega)
            rw [show 9 - f = 9 - (f + 1) + 1 by omega, Nat.pow_succ]
            omega

/-- The reader's calls. -/
theorem rGroups (s : ByteArray) (c most : Int) (k : Nat) (hk : 19 ≤ k) :
    octet_Reader_Groups.f k s c most = some (if c = 0 then ((rdG most s.data.toList).1, ofL (s.data.toList.drop (rdG most s.data.toList).2.1.toNat), (rdG most s.data.toList).2.2) else (0, s, c)) := by
  unfold octet_Reader_Groups.f
  by_cases hc : c = 0
  · rw [if_pos hc, if_pos hc, groups_read s most k hk]
    simp only [Option.bind_some]
    unfold octet_Reader_Refuse.f
    rw [if_pos hc]
    simp only [Option.bind_some]
    have h := rdG_long most s.data.toList
    rw [if_pos h.1, if_pos (by have := h.2.1; simpa using this)]
    congr 3
    apply ext
    rw [post_L, ofL_L]
  · rw [if_neg hc, if_neg hc]
theorem rBytes (s : ByteArray) (c n : Int) : octet_Reader_Bytes.f s c n = some (if c = 0 then (if n < 0 then (⟨#[]⟩, s, 1) else if n > (s.size : Int) then (⟨#[]⟩, s, 10) else (ofL (s.data.toList.take n.toNat), ofL (s.data.toList.drop n.toNat), c)) else (⟨#[]⟩, s, c)) := by
  unfold octet_Reader_Bytes.f octet_Reader_Refuse.f
  by_cases hc : c = 0
  · simp only [if_pos hc, Option.bind_some]
    by_cases h1 : n < 0
    · rw [if_pos h1, if_pos h1]
    · rw [if_neg h1, if_neg h1]
      by_cases h2 : n > (s.size : Int)
      · rw [if_pos h2, if_pos h2]
      · rw [if_neg h2, if_neg h2, if_pos (by omega), if_pos (by omega)]
        congr 2
        · apply ext
          rw [pre_L, ofL_L]
        · congr 1
          apply ext
          rw [post_L, ofL_L]
  · rw [if_neg hc, if_neg hc]
end Go.Proofs.YtjhimmnogjmngaaDoor.OctF
end
/-! OctR -/
section
/- The document's numbers and texts as bytes are the plain words on lists, too. -/
namespace Go.Proofs.YtjhimmnogjmngaaDoor.OctF
open Go Go.RowKit Go.Proofs.YtjhimmnogjmngaaDoor.Px Go.Proofs.YtjhimmnogjmngaaDoorW.PrintWords Go.Proofs.YtjhimmnogjmngaaDoor.Str

theorem ref_Grouped_l0 (n : Nat) : ∀ (s : ByteArray), n < 9223372036854775808 → s.size + (hi (n / 128)).length ≤ 1000 → Ev (fun k => gongref01_Grouped.l0 k (n : Int) s) (ofL (hi (n / 128) ++ s.data.toList)) := by
  induction n using Nat.strongRecOn with
  | _ n ih =>
    intro s hn hs
    by_cases h : n < 128
    · refine Ev.step (f := fun _ => some s) (fun k => ?_) ?_
      · simp only [gongref01_Grouped.l0]
        rw [if_neg (by omega)]
      · rw [show n / 128 = 0 by omega, hi_zero, List.nil_append, ofL_of]
        exact Ev.now _
    · have h1 : n / 128 ≠ 0 := by omega
      have e1 : wrap64 (Int.tdiv (n : Int) 128) = ((n / 128 : Nat) : Int) := by
        rw [Int.tdiv_eq_ediv_of_nonneg (by omega), wrap64_id (by omega) (by omega)]
        omega
      have e2 : strOfNums [wrap64 (Int.tmod ((n / 128 : Nat) : Int) 128 + 128) % 256] = ofL [UInt8.ofNat (n / 128 % 128 + 128)] := by
        apply ext
        rw [nums_L, ofL_L, Int.tmod_eq_emod_of_nonneg (by omega), wrap64_id (by omega) (by omega)]
        simp only [List.map_cons, List.map_nil, List.cons.injEq, and_true]
        congr 1
        omega
      rw [hi_pos h1] at hs ⊢
      rw [List.length_append] at hs
      simp only [List.length_cons, List.length_nil] at hs
      have hsz : (ofL [UInt8.ofNat (n / 128 % 128 + 128)]).size + s.size ≤ 9223372036854775807 := by simp; omega
      have hsum : hi (n / 128 / 128) ++ [UInt8.ofNat (n / 128 % 128 + 128)] ++ s.data.toList = hi (n / 128 / 128) ++ (ofL [UInt8.ofNat (n / 128 % 128 + 128)] ++ s).data.toList := by simp
      rw [hsum]
      have hsz2 : (ofL [UInt8.ofNat (n / 128 % 128 + 128)] ++ s).size = 1 + s.size := by rw [size_L, app_L]; simp; omega
      refine Ev.step (f := fun k => gongref01_Grouped.l0 k ((n / 128 : Nat) : Int) (ofL [UInt8.ofNat (n / 128 % 128 + 128)] ++ s)) (fun k => ?_) (ih (n / 128) (by omega) _ (by omega) (by omega))
      simp only [gongref01_Grouped.l0]
      rw [if_pos (by omega), e1]
      simp only [Option.bind_some]
      rw [e2, if_pos hsz]
theorem ref_Grouped_ev (n : Nat) (hn : n < 9223372036854775808) : Ev (fun k => gongref01_Grouped.f k (n : Int)) (ofL (grp n)) := by
  have e : strOfNums [Int.tmod (n : Int) 128 % 256] = ofL [UInt8.ofNat (n % 128)] := by
    apply ext
    rw [nums_L, ofL_L, Int.tmod_eq_emod_of_nonneg (by omega)]
    simp only [List.map_cons, List.map_nil, List.cons.injEq, and_true]
    congr 1
    omega
  unfold gongref01_Grouped.f
  rw [e]
  have hl := hi_length 8 (n / 128) (by omega)
  exact ref_Grouped_l0 n (ofL [UInt8.ofNat (n % 128)]) hn (by simp; omega)
theorem ref_Padded_l0 (w : Int) (d : Nat) : ∀ (n : Nat) (s : ByteArray) (i : Int), w = i + (d : Int) → w ≤ 1000 → 0 ≤ i → n < 9223372036854775808 → s.size ≤ 2000 - d →
    Ev (fun k => gongref01_Padded.l0 k (n : Int) w s i) (ofL (be d n ++ s.data.toList)) := by
  induction d with
  | zero =>
    intro n s i hi hw h0 hn hs
    refine Ev.step (f := fun _ => some s) (fun k => ?_) ?_
    · simp only [gongref01_Padded.l0]
      rw [if_neg (by omega)]
    · simp only [be, List.nil_append]
      rw [ofL_of]
      exact Ev.now _
  | succ d ih =>
    intro n s i hi hw h0 hn hs
    have e1 : Int.tmod (n : Int) 256 = (n % 256 : Nat) := by rw [Int.tmod_eq_emod_of_nonneg (by omega)]; omega
    have e2 : Int.tdiv (n : Int) 256 = (n / 256 : Nat) := by rw [Int.tdiv_eq_ediv_of_nonneg (by omega)]; omega
    have e3 : (strOfNums [Int.tmod (n : Int) 256 % 256]) = ofL [UInt8.ofNat n] := by
      apply ext
      rw [nums_L, ofL_L, e1]
      simp only [List.map_cons, List.map_nil, List.cons.injEq, and_true]
      apply UInt8.toNat_inj.1
      rw [UInt8.toNat_ofNat', UInt8.toNat_ofNat']
      omega
    have hsz : (ofL [UInt8.ofNat n]).size + s.size ≤ 9223372036854775807 := by simp; omega
    have hsum : be (d + 1) n ++ s.data.toList = be d (n / 256) ++ (ofL [UInt8.ofNat n] ++ s).data.toList := by simp [be]
    rw [hsum]
    refine Ev.step (f := fun k => gongref01_Padded.l0 k ((n / 256 : Nat) : Int) w (ofL [UInt8.ofNat n] ++ s) (i + 1)) (fun k => ?_) (ih (n / 256) _ (i + 1) (by omega) hw (by omega) (by omega) ?_)
    · simp only [gongref01_Padded.l0]
      rw [if_pos (by omega)]
      simp only [Option.bind_some]
      rw [e3, if_pos hsz, e2, wrap64_id (by omega) (by omega), wrap64_id (by omega) (by omega)]
    · have : (ofL [UInt8.ofNat n] ++ s).size = 1 + s.size := by rw [size_L, app_L]; simp; omega
      omega
theorem ref_Padded_ev (n : Nat) (w : Nat) (hn : n < 9223372036854775808) (hw : w ≤ 1000) : Ev (fun k => gongref01_Padded.f k (n : Int) (w : Int)) (ofL (be w n)) := by
  have := ref_Padded_l0 (w : Int) w n ⟨#[]⟩ 0 (by omega) (by omega) (by omega) hn (by simp [size_L])
  simp only [List.append_nil] at this
  exact this

/-- The number of bytes, the highest first. -/
def val (l : List UInt8) : Nat := l.foldl (fun n b => n * 256 + b.toNat) 0
theorem val_snoc (l : List UInt8) (b : UInt8) : val (l ++ [b]) = val l * 256 + b.toNat := by simp [val, List.foldl_append]
theorem snoc_ind {α : Type} {Q : List α → Prop} (h0 : Q []) (h1 : ∀ l b, Q l → Q (l ++ [b])) (l : List α) : Q l := by
  rw [← List.reverse_reverse l]
  induction l.reverse with
  | nil => exact h0
  | cons b r ih => rw [List.reverse_cons]; exact h1 _ _ ih
theorem val_lt (l : List UInt8) : val l < 256 ^ l.length := by
  refine snoc_ind (Q := fun l => val l < 256 ^ l.length) (by decide) (fun l b ih => ?_) l
  rw [val_snoc, List.length_append, List.length_singleton, Nat.pow_succ]
  have := b.toNat_lt
  omega
theorem val_be (w n : Nat) : val (be w n) = n % 256 ^ w := by
  induction w generalizing n with
  | zero => simp [be, val, Nat.mod_one]
  | succ w ih =>
    have e : (UInt8.ofNat n).toNat = n % 256 := UInt8.toNat_ofNat'
    rw [be, val_snoc, ih, e, Nat.pow_succ, Nat.mul_comm (256 ^ w) 256, Nat.mod_mul]
    omega
theorem val_cons (b : UInt8) (l : List UInt8) : val (b :: l) = b.toNat * 256 ^ l.length + val l := by
  refine snoc_ind (Q := fun l => val (b :: l) = b.toNat * 256 ^ l.length + val l) (by simp [val]) (fun l c ih => ?_) l
  rw [← List.cons_append, val_snoc, ih, val_snoc, List.length_append, List.length_singleton, Nat.pow_succ, Nat.add_mul, Nat.mul_assoc]
  omega
/-- Too great a number: eight bytes, the first of them from 128 on. -/
theorem val_big (l : List UInt8) (h : l.length ≤ 8) : val l < 9223372036854775808 ↔ ¬ (l.length = 8 ∧ 128 ≤ (l.getD 0 0).toNat) := by
  by_cases h8 : l.length = 8
  · match l, h8 with
    | b :: r, h8 =>
      have hr : r.length = 7 := by simpa using h8
      have hv := val_lt r
      have h7 : (256 : Nat) ^ 7 = 72057594037927936 := by decide
      rw [hr, h7] at hv
      rw [val_cons, hr, h7, h8]
      have := b.toNat_lt
      simp only [List.getD_cons_zero, true_and]
      omega
  · have hv := val_lt l
    have : (256 : Nat) ^ l.length ≤ 256 ^ 7 := Nat.pow_le_pow_right (by decide) (by omega)
    have h7 : (256 : Nat) ^ 7 = 72057594037927936 := by decide
    constructor
    · intro _ z; exact h8 z.1
    · intro _; omega
theorem val_take (l : List UInt8) (i : Nat) (h : i < l.length) : val (l.take (i + 1)) = val (l.take i) * 256 + (l.getD i 0).toNat := by
  rw [List.take_succ_eq_append_getElem h, val_snoc]
  simp [List.getD, h]
theorem val_take_le (l : List UInt8) (i : Nat) : val (l.take i) ≤ val l := by
  have key : ∀ d i, i + d = l.length → val (l.take i) ≤ val l := by
    intro d
    induction d with
    | zero => intro i hi; rw [List.take_of_length_le (by omega)]; exact Nat.le_refl _
    | succ d ih =>
      intro i hi
      have := ih (i + 1) (by omega)
      rw [val_take l i (by omega)] at this
      omega
  by_cases h : i ≤ l.length
  · exact key (l.length - i) i (by omega)
  · rw [List.take_of_length_le (by omega)]; exact Nat.le_refl _
theorem be_first (w n : Nat) (h : 1 ≤ w) : ∃ r, be w n = UInt8.ofNat (n / 256 ^ (w - 1)) :: r := by
  have := be_add 1 (w - 1) n
  rw [show 1 + (w - 1) = w by omega] at this
  exact ⟨be (w - 1) n, by rw [this]; rfl⟩
end Go.Proofs.YtjhimmnogjmngaaDoor.OctF
end
/-! OctP -/
section
/- The document's reader: its groups, bytes and texts as rdG tells them. -/
namespace Go.Proofs.YtjhimmnogjmngaaDoor.OctF
open Go Go.RowKit Go.Proofs.YtjhimmnogjmngaaDoor.Px Go.Proofs.YtjhimmnogjmngaaDoorW.PrintWords Go.Proofs.YtjhimmnogjmngaaDoor.Str
def pout (S : ByteArray) (A : Nat) (g : Int × Int × Int) : Int × ByteArray × Int × Int := (g.1, S, if g.2.2 = 0 then (A : Int) + g.2.1 else (A : Int), g.2.2)
theorem ref_groups_l0 (S : ByteArray) (hS : S.size ≤ 1073741824) (most : Int) (A : Nat) (d : Nat) : ∀ (i n : Nat), i + d = 9 → A + i ≤ S.size → n < 128 ^ i → Ev (fun k => gongref01_Reader_Groups.l0 k most (n : Int) (i : Int) S (A : Int) 0) (pout S A (pg most d n (S.data.toList.drop (A + i)) i)) := by
  induction d with
  | zero =>
    intro i n hi hA hn
    refine Ev.step (f := fun _ => some ((0 : Int), S, (A : Int), (3 : Int))) (fun k => ?_) (Ev.now _)
    simp only [gongref01_Reader_Groups.l0]
    rw [if_neg (by omega)]
  | succ d ih =>
    intro i n hi hA hn
    have hn8 : n < 72057594037927936 := Nat.lt_of_lt_of_le hn (Nat.le_trans (Nat.pow_le_pow_right (by decide) (show i ≤ 8 by omega)) (by decide))
    have hw : Hid (wrap64 ((A : Int) + (i : Int)) = ((A + i : Nat) : Int)) := Lib.hid (by rw [wrap64_id (by omega) (by omega)]; omega)
    by_cases he : A + i = S.size
    · rw [List.drop_of_length_le (by simp; omega)]
      refine Ev.step (f := fun _ => some ((0 : Int), S, (A : Int), (10 : Int))) (fun k => ?_) (Ev.now _)
      simp only [gongref01_Reader_Groups.l0]
      rw [if_pos (by omega), hw.out, if_pos (by omega)]
    · have hlt : A + i < S.size := by omega
      have hd : S.data.toList.drop (A + i) = S.data.toList[A + i]'(by simpa using hlt) :: S.data.toList.drop (A + i + 1) := List.drop_eq_getElem_cons (by simpa using hlt)
      have hb : bt S ((A + i : Nat) : Int) = ((S.data.toList[A + i]'(by simpa using hlt)).toNat : Int) := by
        rw [bt_L hlt]
        simp [List.getD, hlt]
      generalize S.data.toList[A + i]'(by simpa using hlt) = b at hd hb
      have hbl := b.toNat_lt
      have hn' : n * 128 + b.toNat % 128 < 128 ^ (i + 1) := by rw [Nat.pow_succ]; omega
      have hs : Hid (wrap64 (wrap64 ((n : Int) * 128) + Int.tmod (b.toNat : Int) 128) = ((n * 128 + b.toNat % 128 : Nat) : Int)) := Lib.hid (by
        have hm : Int.tmod (b.toNat : Int) 128 = ((b.toNat % 128 : Nat) : Int) := by rw [Int.tmod_eq_emod_of_nonneg (by omega)]; omega
        rw [hm, wrap64_id (x := (n : Int) * 128) (by omega) (by omega), wrap64_id (by omega) (by omega)]
        omega)
      have hj : ∀ q : Bool, q = decide (i = 0 ∧ b.toNat = 128) → Ev (fun k => gongref01_Reader_Groups.j1 k most (n : Int) (i : Int) (b.toNat : Int) q S (A : Int) 0) (pout S A (pg most (d + 1) n (b :: S.data.toList.drop (A + i + 1)) i)) := by
        intro q hq
        subst hq
        by_cases c1 : i = 0 ∧ b.toNat = 128
        · refine Ev.step (f := fun _ => some ((0 : Int), S, (A : Int), (3 : Int))) (fun k => ?_) ?_
          · simp only [gongref01_Reader_Groups.j1]
            rw [decide_eq_true c1, if_pos rfl]
          · simp only [pg]
            rw [if_pos c1]
            exact Ev.now _
        · by_cases c2 : ((n * 128 + b.toNat % 128 : Nat) : Int) > most
          · refine Ev.step (f := fun _ => some ((0 : Int), S, (A : Int), (2 : Int))) (fun k => ?_) ?_
            · simp only [gongref01_Reader_Groups.j1]
              rw [decide_eq_false c1, if_neg (by decide), hs.out, if_pos c2]
            · simp only [pg]
              rw [if_neg c1, if_pos c2]
              exact Ev.now _
          · by_cases c3 : b.toNat < 128
            · refine Ev.step (f := fun _ => some (((n * 128 + b.toNat % 128 : Nat) : Int), S, ((A : Int) + ((i + 1 : Nat) : Int)), (0 : Int))) (fun k => ?_) ?_
              · simp only [gongref01_Reader_Groups.j1]
                rw [decide_eq_false c1, if_neg (by decide), hs.out, if_neg c2, if_pos (by omega), hw.out, wrap64_id (by omega) (by omega)]
                congr 4
              · simp only [pg]
                rw [if_neg c1, if_neg c2, if_pos c3]
                exact Ev.now _
            · refine Ev.step (f := fun k => gongref01_Reader_Groups.l0 k most ((n * 128 + b.toNat % 128 : Nat) : Int) ((i + 1 : Nat) : Int) S (A : Int) 0) (fun k => ?_) ?_
              · simp only [gongref01_Reader_Groups.j1]
                rw [decide_eq_false c1, if_neg (by decide), hs.out, if_neg c2, if_neg (by omega), wrap64_id (by omega) (by omega)]
                rfl
              · simp only [pg]
                rw [if_neg c1, if_neg c2, if_neg c3]
                exact ih (i + 1) _ (by omega) (by omega) hn'
      rw [hd]
      refine Ev.step (fun k => ?_) (hj _ rfl)
      simp only [gongref01_Reader_Groups.l0]
      rw [if_pos (by omega), hw.out, if_neg (by omega), if_pos (by omega), if_pos (by omega), hb, wrap64_id (by omega) (by omega)]
      by_cases h0 : i = 0
      · subst h0
        rw [if_pos (by rfl)]
        congr 1
        rw [Bool.eq_iff_iff, decide_eq_true_eq, beq_iff_eq]
        omega
      · rw [if_neg (by omega), decide_eq_false (fun z => h0 z.1)]
theorem ref_groups_ev (S : ByteArray) (hS : S.size ≤ 1073741824) (most : Int) (A : Nat) (hA : A ≤ S.size) : Ev (fun k => gongref01_Reader_Groups.f k S (A : Int) 0 most) (pout S A (rdG most (S.data.toList.drop A))) := by
  unfold gongref01_Reader_Groups.f
  exact Ev.congr (fun k => by rw [if_pos rfl]; rfl) (ref_groups_l0 S hS most A 9 0 0 (by omega) (by omega) (by decide))
theorem ref_Bytes_f (S : ByteArray) (hS : S.size ≤ 1073741824) (A : Nat) (hA : A ≤ S.size) (n : Int) : gongref01_Reader_Bytes.f S (A : Int) 0 n = some (if n < 0 then (⟨#[]⟩, S, (A : Int), 1) else if n > ((S.data.toList.drop A).length : Int) then (⟨#[]⟩, S, (A : Int), 10) else (ofL ((S.data.toList.drop A).take n.toNat), S, (A : Int) + n, 0)) := by
  have hsl : S.data.toList.length = S.size := by simp
  unfold gongref01_Reader_Bytes.f
  rw [if_pos rfl]
  by_cases h0 : n < 0
  · rw [if_pos h0, if_pos h0]
  · rw [if_neg h0, if_neg h0]
    simp only [gongref01_Reader_Left.f, Option.bind_some]
    rw [List.length_drop, hsl, wrap64_id (by omega) (by omega)]
    by_cases h1 : n > ((S.size - A : Nat) : Int)
    · rw [if_pos (by omega), if_pos h1]
    · rw [if_neg (by omega), if_neg h1, wrap64_id (x := (A : Int) + n) (by omega) (by omega), wrap64_id (by omega) (by omega), if_pos (by omega), if_pos (by omega), if_pos (by omega)]
      congr 2
      apply ext
      rw [extract_L, ofL_L, show ((A : Int) + n - n).toNat = A by omega, show ((A : Int) + n).toNat = A + n.toNat by omega, List.drop_take]
      congr 1
      omega
end Go.Proofs.YtjhimmnogjmngaaDoor.OctF
end
/-! OctQ -/
section
/- The document's reader: a text. -/
namespace Go.Proofs.YtjhimmnogjmngaaDoor.OctF
open Go Go.RowKit Go.Proofs.YtjhimmnogjmngaaDoor.Px Go.Proofs.YtjhimmnogjmngaaDoorW.PrintWords Go.Proofs.YtjhimmnogjmngaaDoor.Str
def tout (S : ByteArray) (A : Nat) (most : Int) (l : List UInt8) : ByteArray × ByteArray × Int × Int :=
  if (rdG most l).2.2 = 0 then (if (rdG most l).1 > ((l.drop (rdG most l).2.1.toNat).length : Int) then (⟨#[]⟩, S, (A : Int), 10) else (ofL ((l.drop (rdG most l).2.1.toNat).take (rdG most l).1.toNat), S, (A : Int) + (rdG most l).2.1 + (rdG most l).1, 0)) else (⟨#[]⟩, S, (A : Int), (rdG most l).2.2)
theorem ref_Text_rd (S : ByteArray) (hS : S.size ≤ 1073741824) (most : Int) (A : Nat) (hA : A ≤ S.size) : Ev (fun k => gongref01_Reader_Text.f k S (A : Int) 0 most) (tout S A most (S.data.toList.drop A)) := by
  unfold gongref01_Reader_Text.f
  refine Ev.bind (ref_groups_ev S hS most A hA) ?_
  have hsl : S.data.toList.length = S.size := by simp
  obtain ⟨g0, g1, _, g3, _⟩ := rdG_long most (S.data.toList.drop A)
  rw [List.length_drop, hsl] at g1
  unfold pout tout
  simp only
  refine Ev.congr (f := fun _ => some _) (fun k => ?_) (Ev.now _)
  by_cases he : (rdG most (S.data.toList.drop A)).2.2 = 0
  · obtain ⟨j, hj⟩ : ∃ j : Nat, (rdG most (S.data.toList.drop A)).2.1 = j := ⟨_, (Int.toNat_of_nonneg g0).symm⟩
    rw [hj] at g1
    rw [if_pos he, if_pos he, he, hj, Int.toNat_natCast, show (A : Int) + (j : Int) = ((A + j : Nat) : Int) by omega, ref_Bytes_f S hS (A + j) (by omega), if_neg (by omega), ← List.drop_drop]
    by_cases hg : (rdG most (S.data.toList.drop A)).1 > (((S.data.toList.drop A).drop j).length : Int)
    · rw [if_pos hg, if_pos hg]
      rfl
    · rw [if_neg hg, if_neg hg]
      rfl
  · rw [if_neg he, if_neg he]
    unfold gongref01_Reader_Bytes.f
    rw [if_neg he]
    simp only [Option.bind_some]
    rw [if_neg he]
end Go.Proofs.YtjhimmnogjmngaaDoor.OctF
end
/-! CrcB -/
section
/- The register of the sum, bit by bit: its step A is linear and injective. No program in sight. -/
namespace Go.Proofs.YtjhimmnogjmngaaDoor.CrcB

abbrev W := BitVec 32
def poly : W := 0xEDB88320#32
/-- One bit of nought behind. -/
def A (c : W) : W := (c >>> 1) ^^^ (if c.getLsbD 0 then poly else 0#32)
def An : Nat → W → W
  | 0, c => c
  | n + 1, c => An n (A c)
def high : W := 0x80000000#32

theorem An_zero_arg (n : Nat) : An n 0#32 = 0#32 := by
  induction n with
  | zero => rfl
  | succ n ih => unfold An; rw [show A 0#32 = 0#32 by decide]; exact ih
theorem An_add (m n : Nat) (c : W) : An (m + n) c = An m (An n c) := by
  induction n generalizing c with
  | zero => rfl
  | succ n ih => rw [← Nat.add_assoc]; show An (m + n) (A c) = _; rw [ih]; rfl
theorem An_succ (n : Nat) (c : W) : An (n + 1) c = A (An n c) := by
  rw [Nat.add_comm, An_add]; rfl

theorem A_xor (x y : W) : A (x ^^^ y) = A x ^^^ A y := by
  unfold A
  rw [BitVec.ushiftRight_xor_distrib, BitVec.getLsbD_xor]
  cases x.getLsbD 0 <;> cases y.getLsbD 0
  · simp
  · simp only [Bool.false_xor, if_true, Bool.false_eq_true, if_false, BitVec.xor_zero]
    ac_rfl
  · simp only [Bool.xor_false, if_true, Bool.false_eq_true, if_false, BitVec.xor_zero]
    ac_rfl
  · simp only [Bool.xor_self, if_true, Bool.false_eq_true, if_false, BitVec.xor_zero]
    rw [show x >>> 1 ^^^ poly ^^^ (y >>> 1 ^^^ poly) = x >>> 1 ^^^ y >>> 1 ^^^ (poly ^^^ poly) by ac_rfl, BitVec.xor_self, BitVec.xor_zero]
theorem An_xor (n : Nat) (x y : W) : An n (x ^^^ y) = An n x ^^^ An n y := by
  induction n generalizing x y with
  | zero => rfl
  | succ n ih => show An n (A _) = _; rw [A_xor, ih]; rfl

theorem A_zero {x : W} (h : A x = 0#32) : x = 0#32 := by
  have h31 : (A x).getLsbD 31 = false := by rw [h]; simp
  have hl : x.getLsbD 0 = false := by
    unfold A at h31
    rw [BitVec.getLsbD_xor] at h31
    cases hx : x.getLsbD 0 with
    | false => rfl
    | true =>
      rw [hx] at h31
      simp [poly] at h31
  unfold A at h
  rw [hl] at h
  simp at h
  apply BitVec.eq_of_getLsbD_eq
  intro i hi
  cases i with
  | zero => rw [hl]; simp
  | succ i =>
    have := congrArg (fun z => BitVec.getLsbD z i) h
    simp only [BitVec.getLsbD_ushiftRight] at this
    rw [Nat.add_comm 1 i] at this
    rw [this]
    simp
theorem An_zero {n : Nat} {x : W} (h : An n x = 0#32) : x = 0#32 := by
  induction n generalizing x with
  | zero => exact h
  | succ n ih => exact A_zero (ih h)
theorem xor_eq_zero {x y : W} (h : x ^^^ y = 0#32) : x = y := by
  have : x ^^^ y ^^^ y = 0#32 ^^^ y := by rw [h]
  rw [BitVec.xor_assoc, BitVec.xor_self, BitVec.xor_zero, BitVec.zero_xor] at this
  exact this
theorem An_inj {n : Nat} {x y : W} (h : An n x = An n y) : x = y := by
  apply xor_eq_zero
  apply An_zero (n := n)
  rw [An_xor, h, BitVec.xor_self]

/-- Where the lowest bits are nought the step only moves. -/
theorem A_even {x : W} (h : x.getLsbD 0 = false) : A x = x >>> 1 := by unfold A; rw [h]; simp
theorem An_low (n : Nat) : ∀ x : W, (∀ i, i < n → x.getLsbD i = false) → An n x = x >>> n := by
  induction n with
  | zero => intro x _; simp [An]
  | succ n ih =>
    intro x h
    show An n (A x) = _
    rw [A_even (h 0 (by omega)), ih _ (fun i hi => by rw [BitVec.getLsbD_ushiftRight]; exact h (1 + i) (by omega)), ← BitVec.shiftRight_add]
    congr 1
    omega
/-- A register is its lowest n bits and the others. -/
theorem split_low (n : Nat) (c : W) : c = ((c >>> n) <<< n) ^^^ (c &&& BitVec.ofNat 32 (2 ^ n - 1)) := by
  apply BitVec.eq_of_getLsbD_eq
  intro i hi
  simp only [BitVec.getLsbD_xor, BitVec.getLsbD_shiftLeft, BitVec.getLsbD_ushiftRight, BitVec.getLsbD_and, BitVec.getLsbD_ofNat, Nat.testBit_two_pow_sub_one]
  by_cases h : i < n
  · simp [h, hi]
  · simp [h, hi, show n + (i - n) = i by omega]
theorem An_split (n : Nat) (c : W) : An n c = (c >>> n) ^^^ An n (c &&& BitVec.ofNat 32 (2 ^ n - 1)) := by
  have e := congrArg (An n) (split_low n c)
  rw [An_xor] at e
  rw [e]
  congr 1
  rw [An_low n _ (fun i hi => by simp [hi])]
  apply BitVec.eq_of_getLsbD_eq
  intro i hi
  simp only [BitVec.getLsbD_ushiftRight, BitVec.getLsbD_shiftLeft]
  by_cases h : n + i < 32
  · simp [h]
  · simp [h, BitVec.getLsbD_of_ge c (n + i) (by omega)]

/-- Half a byte, by the table. -/
def halfB : Nat → W := fun i => BitVec.ofNat 32 ([0, 498536548, 997073096, 651767980, 1994146192, 1802195444, 1303535960, 1342533948, 3988292384, 4027552580, 3604390888, 3412177804, 2607071920, 2262029012, 2685067896, 3183342108].getD i 0)
theorem half_An : ∀ i : Fin 16, halfB i.val = An 4 (BitVec.ofNat 32 i.val) := by decide
theorem An4 (c : W) : An 4 c = (c >>> 4) ^^^ halfB (c.toNat % 16) := by
  have h := half_An ⟨c.toNat % 16, Nat.mod_lt _ (by decide)⟩
  simp only at h
  rw [h, An_split]
  congr 2
  apply BitVec.eq_of_toNat_eq
  rw [BitVec.toNat_and, BitVec.toNat_ofNat, BitVec.toNat_ofNat]
  show c.toNat &&& (2 ^ 4 - 1) = _
  rw [Nat.and_two_pow_sub_one_eq_mod]
  omega

/-- A byte behind. -/
def step (c : W) (b : W) : W := An 8 (c ^^^ b)
def byte (b : UInt8) : W := BitVec.ofNat 32 b.toNat
def run (c : W) (l : List UInt8) : W := l.foldl (fun c b => step c (byte b)) c
theorem run_nil (c : W) : run c [] = c := rfl
theorem run_cons (c : W) (b : UInt8) (l : List UInt8) : run c (b :: l) = run (step c (byte b)) l := rfl
theorem run_append (c : W) (l m : List UInt8) : run c (l ++ m) = run (run c l) m := by simp [run, List.foldl_append]
/-- What a register's other value makes of the end. -/
theorem run_xor (c d : W) (l : List UInt8) : run (c ^^^ d) l = run c l ^^^ An (8 * l.length) d := by
  induction l generalizing c d with
  | nil => rfl
  | cons b l ih =>
    rw [run_cons, run_cons, List.length_cons]
    have : step (c ^^^ d) (byte b) = step c (byte b) ^^^ An 8 d := by
      unfold step
      rw [show c ^^^ d ^^^ byte b = (c ^^^ byte b) ^^^ d by rw [BitVec.xor_assoc, BitVec.xor_assoc, BitVec.xor_comm d], An_xor]
    rw [this, ih, ← An_add]
    rfl

theorem An_high : ∀ k : Fin 32, An k.val high = BitVec.ofNat 32 (2 ^ (31 - k.val)) := by decide
/-- One bit. -/
def bit (j : Nat) : W := BitVec.ofNat 32 (2 ^ j)
theorem bit_An {j : Nat} (h : j < 32) : bit j = An (31 - j) high := by
  have := An_high ⟨31 - j, by omega⟩
  simp only at this
  rw [this, show 31 - (31 - j) = j by omega]
  rfl

/-- Four bytes, the lowest first, behind: as if they had stood in the register. -/
theorem An8_bytes (c : W) (a b : W) (ha : ∀ i, i < 8 → a.getLsbD i = false) : step (c ^^^ a) b = step c b ^^^ (a >>> 8) := by
  unfold step
  rw [show c ^^^ a ^^^ b = (c ^^^ b) ^^^ a by rw [BitVec.xor_assoc, BitVec.xor_assoc, BitVec.xor_comm a], An_xor, An_low 8 a ha]

def le4 (x : W) : List UInt8 := [UInt8.ofNat x.toNat, UInt8.ofNat (x.toNat / 256), UInt8.ofNat (x.toNat / 65536), UInt8.ofNat (x.toNat / 16777216)]
theorem byte_ofNat (n : Nat) : byte (UInt8.ofNat n) = BitVec.ofNat 32 (n % 256) := by
  unfold byte
  rw [UInt8.toNat_ofNat']
theorem run_le4 (c x : W) : run c (le4 x) = An 32 (c ^^^ x) := by
  have one : ∀ d y : W, An 8 (d ^^^ y) = step d (BitVec.ofNat 32 (y.toNat % 256)) ^^^ (y >>> 8) := by
    intro d y
    unfold step
    rw [An_split 8 (d ^^^ y), An_split 8 (d ^^^ BitVec.ofNat 32 (y.toNat % 256))]
    have e1 : (d ^^^ BitVec.ofNat 32 (y.toNat % 256)) >>> 8 = d >>> 8 := by
      apply BitVec.eq_of_getLsbD_eq
      intro i hi
      rw [BitVec.getLsbD_ushiftRight, BitVec.getLsbD_ushiftRight, BitVec.getLsbD_xor, BitVec.getLsbD_ofNat]
      have : (y.toNat % 256).testBit (8 + i) = false := Nat.testBit_lt_two_pow (Nat.lt_of_lt_of_le (Nat.mod_lt _ (by decide)) (by rw [show 256 = 2 ^ 8 by rfl]; exact Nat.pow_le_pow_right (by decide) (by omega)))
      rw [this]
      simp
    have e2 : (d ^^^ BitVec.ofNat 32 (y.toNat % 256)) &&& BitVec.ofNat 32 (2 ^ 8 - 1) = (d ^^^ y) &&& BitVec.ofNat 32 (2 ^ 8 - 1) := by
      apply BitVec.eq_of_getLsbD_eq
      intro i hi
      simp only [BitVec.getLsbD_and, BitVec.getLsbD_xor, BitVec.getLsbD_ofNat, Nat.testBit_two_pow_sub_one]
      rw [show 256 = 2 ^ 8 by rfl, Nat.testBit_mod_two_pow]
      by_cases h : i < 8
      · simp [h, hi, BitVec.getLsbD]
      · simp [h]
    rw [e1, e2, BitVec.ushiftRight_xor_distrib, BitVec.xor_assoc, BitVec.xor_assoc, BitVec.xor_comm (y >>> 8)]
  have s8 : ∀ (y : W) (k : Nat), (y >>> k).toNat = y.toNat / 2 ^ k := fun y k => by rw [BitVec.toNat_ushiftRight, Nat.shiftRight_eq_div_pow]
  have z : x >>> 8 >>> 8 >>> 8 >>> 8 = 0#32 := by
    apply BitVec.eq_of_toNat_eq
    rw [s8, s8, s8, s8]
    have := x.isLt
    simp only [BitVec.toNat_ofNat]
    omega
  unfold le4
  rw [run_cons, run_cons, run_cons, run_cons, run_nil, byte_ofNat, byte_ofNat, byte_ofNat, byte_ofNat]
  show _ = An (8 + (8 + (8 + 8))) (c ^^^ x)
  rw [An_add, An_add, An_add, one c x, one _ (x >>> 8), one _ (x >>> 8 >>> 8), one _ (x >>> 8 >>> 8 >>> 8), z, BitVec.xor_zero]
  rw [s8, s8, s8, s8, s8, s8]
  simp only [Nat.div_div_eq_div_mul]

/-- The register behind bytes that bear their own sum is always the same. -/
def all : W := 0xFFFFFFFF#32
def residue : W := An 32 all
theorem tag_residue (l : List UInt8) (x : W) : run all (l ++ le4 x) = residue ↔ x = run all l ^^^ all := by
  rw [run_append, run_le4]
  constructor
  · intro h
    have e : x = run all l ^^^ (run all l ^^^ x) := by rw [← BitVec.xor_assoc, BitVec.xor_self, BitVec.zero_xor]
    rw [An_inj h] at e
    exact e
  · intro h
    rw [h, ← BitVec.xor_assoc, BitVec.xor_self, BitVec.zero_xor]
    rfl

/-- What a turned bit makes of the register behind all: bit j of byte i, of n bytes. -/
theorem run_flip (c : W) (l : List UInt8) (i : Nat) (b b' : UInt8) (j : Nat) (hj : j < 8) (hi : i < l.length) (hb : l[i]? = some b) (hx : byte b' = byte b ^^^ bit j) :
    run c (l.set i b') = run c l ^^^ An (8 * l.length + 31 - (8 * i + j)) high := by
  have hl : l = l.take i ++ b :: l.drop (i + 1) := by
    rw [List.getElem?_eq_getElem hi] at hb
    injection hb with hb
    rw [← hb]
    simp
  have hlen : (l.take i).length = i := by rw [List.length_take]; omega
  have hs : l.set i b' = l.take i ++ b' :: l.drop (i + 1) := by
    rw [List.set_eq_take_append_cons_drop, if_pos hi]
  rw [hs]
  conv => rhs; rw [hl]
  rw [run_append, run_append, run_cons, run_cons]
  have : step (run c (l.take i)) (byte b') = step (run c (l.take i)) (byte b) ^^^ An 8 (bit j) := by
    unfold step
    rw [hx, ← BitVec.xor_assoc, An_xor]
  rw [this, run_xor, bit_An (by omega), ← An_add, ← An_add]
  congr 2
  simp only [List.length_drop, List.length_append, List.length_take, List.length_cons]
  omega

end Go.Proofs.YtjhimmnogjmngaaDoor.CrcB
end
/-! CrcT -/
section
/- Products of registers, and what many bytes of nought make of one. And the registers as whole numbers, as the walk has them. -/
namespace Go.Proofs.YtjhimmnogjmngaaDoor.CrcB

/-- The product, by its first n powers. -/
def T : Nat → W → W → W
  | 0, _, _ => 0#32
  | n + 1, a, b => T n a b ^^^ (if a.getLsbD (31 - n) then An n b else 0#32)
theorem T_xor (n : Nat) (a b c : W) : T n a (b ^^^ c) = T n a b ^^^ T n a c := by
  induction n with
  | zero => simp [T]
  | succ n ih =>
    unfold T
    rw [ih]
    split
    · rw [An_xor]; ac_rfl
    · simp
theorem A_zero_arg : A 0#32 = 0#32 := by decide
theorem T_A (n : Nat) (a b : W) : T n a (A b) = A (T n a b) := by
  induction n with
  | zero => simp [T, A_zero_arg]
  | succ n ih =>
    unfold T
    rw [ih, A_xor]
    split
    · rw [show An n (A b) = An (n + 1) b from rfl, An_succ]
    · rw [A_zero_arg]
theorem T_An (n m : Nat) (a b : W) : T n a (An m b) = An m (T n a b) := by
  induction m generalizing b with
  | zero => rfl
  | succ m ih => rw [An_succ, T_A, ih, ← An_succ]
theorem bit_get (j i : Nat) (hj : j < 32) : (bit j).getLsbD i = decide (i = j) := by
  unfold bit
  rw [BitVec.getLsbD_ofNat, Nat.testBit_two_pow]
  by_cases h : i = j
  · subst h; simp [hj]
  · simp [h, Ne.symm h]
theorem T_high_get (n : Nat) (hn : n ≤ 32) (b : W) (i : Nat) (hi : i < 32) : (T n b high).getLsbD i = (decide (31 - i < n) && b.getLsbD i) := by
  induction n with
  | zero => simp [T]
  | succ n ih =>
    unfold T
    rw [BitVec.getLsbD_xor, ih (by omega)]
    have hb : An n high = bit (31 - n) := by rw [bit_An (by omega)]; congr 1; omega
    rw [hb]
    by_cases h : i = 31 - n
    · subst h
      have h1 : ¬ (31 - (31 - n) < n) := by omega
      have h2 : 31 - (31 - n) < n + 1 := by omega
      cases hx : b.getLsbD (31 - n) <;> simp [h1, h2, bit_get _ _ (show 31 - n < 32 by omega)]
    · have h1 : (31 - i < n + 1) = (31 - i < n) := by apply propext; omega
      simp only [h1]
      split
      · rw [bit_get _ _ (by omega)]; simp [h]
      · simp
theorem T_high (b : W) : T 32 b high = b := by
  apply BitVec.eq_of_getLsbD_eq
  intro i hi
  rw [T_high_get 32 (Nat.le_refl _) b i hi]
  have : 31 - i < 32 := by omega
  simp [this]
/-- The product by a power is the power. -/
theorem T_pow (m : Nat) (b : W) : T 32 (An m high) b = An m b := by
  have key : ∀ n, T 32 (An m high) (T n b high) = An m (T n b high) := by
    intro n
    induction n with
    | zero =>
      show T 32 (An m high) 0#32 = An m 0#32
      have := T_xor 32 (An m high) 0#32 0#32
      rw [BitVec.xor_self, BitVec.xor_self] at this
      rw [this, An_zero_arg]
    | succ n ih =>
      show T 32 (An m high) (T n b high ^^^ _) = An m (T n b high ^^^ _)
      rw [T_xor, An_xor, ih]
      congr 1
      split
      · rw [T_An, T_high, ← An_add, ← An_add, Nat.add_comm]
      · have := T_xor 32 (An m high) 0#32 0#32
        rw [BitVec.xor_self, BitVec.xor_self] at this
        rw [this, An_zero_arg]
  have := key 32
  rw [T_high] at this
  exact this

/-! ### As whole numbers -/
open Go
def B (x : Int) : W := BitVec.ofInt 32 x
def I (b : W) : Int := (b.toNat : Int)
theorem I_range (b : W) : 0 ≤ I b ∧ I b < 4294967296 := by
  unfold I
  have := b.isLt
  omega
theorem B_I (b : W) : B (I b) = b := by
  unfold B I
  rw [BitVec.ofInt_natCast]
  simp
theorem I_B {x : Int} (h0 : 0 ≤ x) (h1 : x < 4294967296) : I (B x) = x := by
  unfold B I
  rw [BitVec.toNat_ofInt]
  omega
theorem I_inj {a b : W} (h : I a = I b) : a = b := by rw [← B_I a, h, B_I]
theorem I_eq {a b : W} : I a = I b ↔ a = b := ⟨I_inj, fun h => by rw [h]⟩
theorem wrapI (b : W) : IntKind.u32.wrap (b.toNat : Int) = I b := by
  rw [IntKind.wrap_u32]
  have := b.isLt
  unfold I
  omega
theorem xor_I (x y : Int) : Go.bits .xor .u32 x y = I (B x ^^^ B y) := wrapI _
theorem and_I (x y : Int) : Go.bits .and .u32 x y = I (B x &&& B y) := wrapI _
theorem xor_II (a b : W) : Go.bits .xor .u32 (I a) (I b) = I (a ^^^ b) := by rw [xor_I, B_I, B_I]
theorem I_half (c : W) : I c / (2 : Int) = I (c >>> 1) := by
  unfold I
  rw [BitVec.toNat_ushiftRight, Nat.shiftRight_eq_div_pow]
  omega
theorem I_16 (c : W) : I c / (16 : Int) = I (c >>> 4) := by
  unfold I
  rw [BitVec.toNat_ushiftRight, Nat.shiftRight_eq_div_pow]
  omega
theorem I_256 (c : W) : I c / (256 : Int) = I (c >>> 8) := by
  unfold I
  rw [BitVec.toNat_ushiftRight, Nat.shiftRight_eq_div_pow]
  omega
theorem I_all : (4294967295 : Int) = I all := by decide
theorem I_poly : (3988292384 : Int) = I poly := by decide
theorem I_high : (2147483648 : Int) = I high := by decide

theorem half_I : ∀ i : Fin 16, Crc.halfL.getD i.val 0 = I (halfB i.val) := by decide
theorem nib_I (c : W) : Crc.nib (I c) = I (An 4 c) := by
  unfold Crc.nib
  rw [Crc.and15, I_16]
  have h := half_I ⟨c.toNat % 16, Nat.mod_lt _ (by decide)⟩
  simp only at h
  have e : (I c % 16).toNat = c.toNat % 16 := by unfold I; omega
  rw [e, h, xor_II, An4]
theorem step_I (c : W) (b : UInt8) : Crc.stepI (I c) (b.toNat : Int) = I (step c (byte b)) := by
  unfold Crc.stepI
  have e : ((b.toNat : Nat) : Int) = I (byte b) := by
    unfold I byte
    have := b.toNat_lt
    rw [BitVec.toNat_ofNat]
    omega
  rw [e, xor_II, nib_I, nib_I, ← An_add]
  rfl
theorem behind_I (c : W) (l : List UInt8) : Crc.behindI (I c) l = I (run c l) := by
  induction l generalizing c with
  | nil => rfl
  | cons b l ih =>
    show Crc.behindI (Crc.stepI (I c) (b.toNat : Int)) l = _
    rw [step_I, ih]
    rfl
theorem lsb_I (c : W) : (Go.bits .and .u32 (I c) 1 = 1) ↔ c.getLsbD 0 = true := by
  have h1 : (1 : Int) = I 1#32 := by decide
  rw [h1, and_I, B_I, B_I, I_eq]
  constructor
  · intro h
    have := congrArg (fun z => BitVec.getLsbD z 0) h
    simpa using this
  · intro h
    apply BitVec.eq_of_getLsbD_eq
    intro i hi
    rw [BitVec.getLsbD_and]
    cases i with
    | zero => simp [h]
    | succ i => simp
theorem A_I (c : W) : (if Go.bits .and .u32 (I c) 1 = 1 then Go.bits .xor .u32 (I c / 2) 3988292384 else I c / 2) = I (A c) := by
  unfold A
  by_cases h : c.getLsbD 0 = true
  · rw [if_pos ((lsb_I c).2 h), if_pos h, I_half, I_poly, xor_II]
  · rw [if_neg (fun z => h ((lsb_I c).1 z)), if_neg h, I_half, BitVec.xor_zero]
end Go.Proofs.YtjhimmnogjmngaaDoor.CrcB
end
/-! CrcF -/
section
/- The printed functions of the sums are the registers' words. -/
namespace Go.Proofs.YtjhimmnogjmngaaDoor.CrcB
open Go Go.RowKit Go.Proofs.YtjhimmnogjmngaaDoor.Px Go.Proofs.YtjhimmnogjmngaaDoorW.PrintWords Go.Proofs.YtjhimmnogjmngaaDoor.Str

/-- A text's sum, as a register. -/
def sumL (l : List UInt8) : W := run all l ^^^ all
theorem behind_f (c : W) (s : ByteArray) (h : s.size ≤ 140737488355328) : crc_behind.f (I c) s = some (I (run c s.data.toList)) := by
  unfold crc_behind.f
  rw [if_pos h, behind_I]
theorem sum_f (s : ByteArray) (h : s.size ≤ 140737488355328) : crc_Sum.f s = some (I (sumL s.data.toList)) := by
  unfold crc_Sum.f
  rw [I_all, behind_f _ _ h]
  simp only [Option.bind_some]
  rw [xor_II, BitVec.xor_comm]
  have := I_range (run all s.data.toList ^^^ all)
  rw [wrap64_id (by omega) (by omega)]
  rfl
/-- Bytes with their sum behind them. -/
def tagL (l : List UInt8) : List UInt8 := l ++ le4 (sumL l)
theorem le_I (c : W) : (crc_Tag.le 4 (I c)).map (fun n => UInt8.ofNat n.toNat) = le4 c := by
  simp only [crc_Tag.le, List.range, List.range.loop, List.map_cons, List.map_nil, crc_Tag.sh, le4, I]
  have h := c.isLt
  have e : ∀ (x : Int) (n : Nat), x = ((n % 256 : Nat) : Int) → UInt8.ofNat x.toNat = UInt8.ofNat n := fun x n hx => by
    apply UInt8.toNat_inj.1
    rw [hx, UInt8.toNat_ofNat', UInt8.toNat_ofNat', Int.toNat_natCast]
    omega
  rw [e _ c.toNat (by omega), e _ (c.toNat / 256) (by omega), e _ (c.toNat / 65536) (by omega), e _ (c.toNat / 16777216) (by omega)]
theorem tag_f (s : ByteArray) (h : s.size ≤ 1073741824) : crc_Tag.f s = some (ofL (tagL s.data.toList)) := by
  unfold crc_Tag.f
  rw [if_pos h, sum_f _ (by omega)]
  simp only [Option.bind_some, Option.some.injEq]
  apply ext
  rw [nums_L, List.map_append, le_I, ofL_L]
  unfold BR.ints
  rw [map_u8]
  rfl
theorem tagL_length (l : List UInt8) : (tagL l).length = l.length + 4 := by simp [tagL, le4]
theorem le4_inj {x y : W} (h : le4 x = le4 y) : x = y := by
  have h1 := run_le4 0#32 x
  rw [h, run_le4, BitVec.zero_xor, BitVec.zero_xor] at h1
  exact (An_inj h1).symm
theorem le4_all : ∀ l : List UInt8, l.length = 4 → ∃ x : W, l = le4 x := by
  intro l hl
  match l, hl with
  | [a, b, c, d], _ =>
    have ha := a.toNat_lt
    have hb := b.toNat_lt
    have hc := c.toNat_lt
    have hd := d.toNat_lt
    refine ⟨BitVec.ofNat 32 (a.toNat + 256 * b.toNat + 65536 * c.toNat + 16777216 * d.toNat), ?_⟩
    unfold le4
    rw [BitVec.toNat_ofNat]
    have e : ∀ (u : UInt8) (n : Nat), n % 256 = u.toNat → u = UInt8.ofNat n := fun u n h => by
      apply UInt8.toNat_inj.1
      rw [UInt8.toNat_ofNat', ← h]
    rw [← e a _ (by omega), ← e b _ (by omega), ← e c _ (by omega), ← e d _ (by omega)]
/-- Bytes bear their own sum just where the register behind them all is the residue. -/
theorem owns_iff (l : List UInt8) (h : 4 ≤ l.length) : tagL (l.take (l.length - 4)) = l ↔ run all l = residue := by
  obtain ⟨x, hx⟩ := le4_all (l.drop (l.length - 4)) (by simp; omega)
  have hl : l = l.take (l.length - 4) ++ le4 x := by rw [← hx, List.take_append_drop]
  generalize l.take (l.length - 4) = m at hl
  subst hl
  rw [tag_residue]
  unfold tagL sumL
  constructor
  · intro h
    exact (le4_inj (List.append_cancel_left h)).symm
  · intro h
    rw [h]
theorem open_f (s : ByteArray) (h : s.size ≤ 1073741824) :
    crc_Open.f s = some (if 4 ≤ s.size ∧ run all s.data.toList = residue then (s.extract 0 (s.size - 4), true) else (⟨#[]⟩, false)) := by
  unfold crc_Open.f
  by_cases h4 : 4 ≤ s.size
  · rw [if_neg (by omega), wrap64_id (by omega) (by omega), if_pos (by omega), if_pos (by omega)]
    have e : ((s.size : Int) - 4).toNat = s.size - 4 := by omega
    rw [e, tag_f _ (by rw [size_L, pre_L, List.length_take]; omega)]
    simp only [Option.bind_some]
    have hk := owns_iff s.data.toList (by simpa using h4)
    rw [toList_L, toList_L, ofL_L, pre_L, show s.size = s.data.toList.length from size_L s]
    by_cases hr : run all s.data.toList = residue
    · rw [if_pos (hk.2 hr), if_pos ⟨by simpa using h4, hr⟩]
    · rw [if_neg (fun z => hr (hk.1 z)), if_neg (fun z => hr z.2)]
  · rw [if_pos (by omega), if_neg (fun z => h4 z.1)]
theorem run_tagL (l : List UInt8) : run all (tagL l) = residue := by
  unfold tagL
  rw [tag_residue]
  rfl
/-- What was tagged is opened as it was. -/
theorem open_tag (l : List UInt8) (h : l.length ≤ 1073741820) : crc_Open.f (ofL (tagL l)) = some (ofL l, true) := by
  rw [open_f _ (by rw [ofL_size, tagL_length]; omega), if_pos ⟨by rw [ofL_size, tagL_length]; omega, by rw [ofL_L, run_tagL]⟩]
  congr 2
  apply ext
  rw [pre_L, ofL_L, ofL_size, tagL_length]
  simp [tagL]
theorem below_f (x n : Int) (h0 : 0 < n) (h1 : n ≤ 4611686018427387904) : gongbook_Below.f x n = some (x % n) := by
  unfold gongbook_Below.f
  rw [if_neg (by omega)]
  have hr := Int.tmod_lt_of_pos x h0
  have hl : -n < Int.tmod x n := by
    have := Int.lt_tmod_of_pos x h0
    omega
  rw [wrap64_id (by omega) (by omega)]
  congr 1
  have e : (Int.tmod x n + n).tmod n = (Int.tmod x n + n) % n := Int.tmod_eq_emod_of_nonneg (by omega)
  rw [e, Int.add_emod_right]
  rcases Int.le_total 0 x with hx | hx
  · rw [Int.tmod_eq_emod_of_nonneg hx, Int.emod_emod_of_dvd _ (Int.dvd_refl n)]
  · have : Int.tmod x n = x - n * Int.tdiv x n := by have := Int.mul_tdiv_add_tmod x n; omega
    rw [this, Int.sub_mul_emod_self_left]
end Go.Proofs.YtjhimmnogjmngaaDoor.CrcB
end
/-! OctW -/
section
/- A reader's wide numbers and texts. -/
namespace Go.Proofs.YtjhimmnogjmngaaDoor.OctF
open Go Go.RowKit Go.Proofs.YtjhimmnogjmngaaDoor.Px Go.Proofs.YtjhimmnogjmngaaDoorW.PrintWords Go.Proofs.YtjhimmnogjmngaaDoor.Str
theorem join8 (n b : Nat) (hn : n < 72057594037927936) (hb : b < 256) : Go.bits .or .u64 (IntKind.u64.wrap ((n : Int) * 256)) (b : Int) = ((n * 256 + b : Nat) : Int) := by
  have hw : IntKind.u64.wrap ((n : Int) * 256) = (n : Int) * 256 := by rw [IntKind.wrap_u64]; omega
  rw [hw, bits_join .u64 64 (by decide) (fun n h0 h1 => by rw [IntKind.wrap_u64]; omega) 8 ((n : Int) * 256) (b : Int) (by omega) (by omega) (by omega) (by omega) (by omega) (by omega)]
  omega
theorem wideU_val (l : List UInt8) (h : l.length ≤ 8) : Oct.wideU (l.map fun b => (b.toNat : Int)) = (val l : Int) := by
  have key : ∀ l : List UInt8, l.length ≤ 8 → Oct.wideU (l.map fun b => (b.toNat : Int)) = (val l : Int) := fun l => by
    refine snoc_ind (Q := fun l => l.length ≤ 8 → Oct.wideU (l.map fun b => (b.toNat : Int)) = (val l : Int)) (fun _ => rfl) (fun l b ih h => ?_) l
    rw [List.length_append, List.length_singleton] at h
    have h1 := ih (by omega)
    have hv := val_lt l
    have h7 : (256 : Nat) ^ l.length ≤ 72057594037927936 := Nat.le_trans (Nat.pow_le_pow_right (by decide) (show l.length ≤ 7 by omega)) (by decide)
    unfold Oct.wideU at h1 ⊢
    rw [List.map_append, List.foldl_append, h1, val_snoc]
    exact join8 (val l) b.toNat (by omega) (by have := b.toNat_lt; omega)
  exact key l h
theorem rText (s : ByteArray) (c most : Int) : octet_Reader_Text.f s c most = some (if c = 0 then (if (rdG most s.data.toList).2.2 = 0 then (if (rdG most s.data.toList).1 > ((s.data.toList.drop (rdG most s.data.toList).2.1.toNat).length : Int) then (⟨#[]⟩, s, 10) else (ofL ((s.data.toList.drop (rdG most s.data.toList).2.1.toNat).take (rdG most s.data.toList).1.toNat), ofL ((s.data.toList.drop (rdG most s.data.toList).2.1.toNat).drop (rdG most s.data.toList).1.toNat), 0)) else (⟨#[]⟩, s, (rdG most s.data.toList).2.2)) else (⟨#[]⟩, s, c)) := by
  unfold octet_Reader_Text.f
  rw [rGroups s c most 40 (by decide)]
  simp only [Option.bind_some]
  obtain ⟨_, _, _, h4, _⟩ := rdG_long most s.data.toList
  by_cases hc : c = 0
  · simp only [if_pos hc]
    by_cases he : (rdG most s.data.toList).2.2 = 0
    · simp only [he, rBytes, if_true]
      rw [if_neg (by omega), ofL_size]
      by_cases hg : (rdG most s.data.toList).1 > ((s.data.toList.drop (rdG most s.data.toList).2.1.toNat).length : Int)
      · rw [if_pos hg, if_pos hg]
        rfl
      · rw [if_neg hg, if_neg hg]
        simp only [Option.bind_some, if_true, ofL_L]
    · simp only [if_neg he, rBytes, Option.bind_some]
  · simp only [if_neg hc, rBytes, Option.bind_some]
end Go.Proofs.YtjhimmnogjmngaaDoor.OctF
end
/-! OctB -/
section
/- Groups there and back. -/
namespace Go.Proofs.YtjhimmnogjmngaaDoor.OctF
open Go Go.Proofs.YtjhimmnogjmngaaDoor.Str

theorem pg_hi (most : Int) (q : Nat) : ∀ acc : List UInt8, (q : Int) ≤ most → q < 72057594037927936 → pg most 9 0 (hi q ++ acc) 0 = pg most (9 - (hi q).length) q acc (hi q).length := by
  induction q using Nat.strongRecOn with
  | _ q ih =>
    intro acc hm hq
    by_cases h0 : q = 0
    · subst h0
      rw [hi_zero]
      rfl
    · have hl : (hi (q / 128)).length ≤ 7 := hi_length 7 _ (by omega)
      rw [hi_pos h0, List.append_assoc, ih (q / 128) (by omega) _ (by omega) (by omega)]
      generalize hL : (hi (q / 128)).length = L at hl
      obtain ⟨f, hf⟩ : ∃ f, 9 - L = f + 1 := ⟨8 - L, by omega⟩
      have hb : (UInt8.ofNat (q % 128 + 128)).toNat = q % 128 + 128 := toNat_ofNat (by omega)
      have hz : ¬ (L = 0 ∧ q % 128 + 128 = 128) := by
        rintro ⟨z1, z2⟩
        have hq0 : q / 128 = 0 := by
          rcases Nat.eq_zero_or_pos (q / 128) with h | h
          · exact h
          · rw [hi_pos (by omega), List.length_append] at hL
            simp at hL
            omega
        omega
      rw [hf]
      simp only [List.cons_append, List.nil_append, pg, hb]
      rw [if_neg hz, show q / 128 * 128 + (q % 128 + 128) % 128 = q by omega, if_neg (by omega), if_neg (by omega), List.length_append, hL]
      simp only [List.length_cons, List.length_nil, Nat.zero_add]
      congr 1
      omega
/-- A number's groups are read back, with whatever stands behind them. -/
theorem rdG_grp (most : Int) (n : Nat) (r : List UInt8) (hm : (n : Int) ≤ most) (hn : n < 9223372036854775808) : rdG most (grp n ++ r) = ((n : Int), ((grp n).length : Int), 0) := by
  have hl : (hi (n / 128)).length ≤ 8 := hi_length 8 _ (by omega)
  unfold rdG grp
  rw [List.append_assoc, pg_hi most (n / 128) _ (by omega) (by omega)]
  generalize hL : (hi (n / 128)).length = L at hl ⊢
  have hb : (UInt8.ofNat (n % 128)).toNat = n % 128 := toNat_ofNat (by omega)
  obtain ⟨f, hf⟩ : ∃ f, 9 - L = f + 1 := ⟨8 - L, by omega⟩
  rw [hf]
  simp only [List.cons_append, List.nil_append, pg, hb, List.length_append, List.length_cons, List.length_nil]
  rw [if_neg (by omega), show n / 128 * 128 + n % 128 % 128 = n by omega, if_neg (by omega), if_pos (by omega), hL]
/-- What is read as groups is written as just the bytes that were read. -/
theorem pg_inv (most : Int) (f : Nat) : ∀ (n : Nat) (pre l : List UInt8) (i : Nat), i = pre.length → hi n = pre → (i = 0 ↔ n = 0) → (pg most f n l i).2.2 = 0 →
    ∃ m : Nat, (pg most f n l i).1 = (m : Int) ∧ ∃ j : Nat, (pg most f n l i).2.1 = (j : Int) ∧ i ≤ j ∧ j ≤ i + l.length ∧ grp m = pre ++ l.take (j - i) := by
  induction f with
  | zero => intro n pre l i _ _ _ h; simp [pg] at h
  | succ f ih =>
    intro n pre l i hi' hp hz h
    cases l with
    | nil => simp [pg] at h
    | cons b r =>
      simp only [pg] at h ⊢
      have hbl := b.toNat_lt
      split at h
      · simp at h
      · rename_i h1
        rw [if_neg h1]
        split at h
        · simp at h
        · rename_i h2
          rw [if_neg h2]
          split at h
          · rename_i h3
            rw [if_pos h3]
            refine ⟨_, rfl, i + 1, rfl, by omega, by simp, ?_⟩
            unfold grp
            rw [show (n * 128 + b.toNat % 128) / 128 = n by omega, hp, show i + 1 - i = 1 by omega]
            simp only [List.take_succ_cons, List.take_zero]
            congr 2
            apply UInt8.toNat_inj.1
            rw [toNat_ofNat (by omega)]
            omega
          · rename_i h3
            rw [if_neg h3]
            have hn0 : n * 128 + b.toNat % 128 ≠ 0 := by
              intro z
              have : n = 0 := by omega
              exact h1 ⟨hz.2 this, by omega⟩
            have hh : hi (n * 128 + b.toNat % 128) = pre ++ [b] := by
              rw [hi_pos hn0, show (n * 128 + b.toNat % 128) / 128 = n by omega, hp]
              congr 2
              apply UInt8.toNat_inj.1
              rw [toNat_ofNat (by omega)]
              omega
            obtain ⟨m, e1, j, e2, hj1, hj2, e3⟩ := ih (n * 128 + b.toNat % 128) (pre ++ [b]) r (i + 1) (by simp; omega) hh (by omega) h
            refine ⟨m, e1, j, e2, by omega, by simp; omega, ?_⟩
            rw [e3, List.append_assoc]
            congr 1
            rw [show j - i = (j - (i + 1)) + 1 by omega, List.take_succ_cons]
            rfl
theorem rdG_inv (most : Int) (l : List UInt8) (h : (rdG most l).2.2 = 0) : ∃ m j : Nat, (rdG most l).1 = (m : Int) ∧ (rdG most l).2.1 = (j : Int) ∧ j ≤ l.length ∧ grp m = l.take j := by
  obtain ⟨m, e1, j, e2, _, h2, e3⟩ := pg_inv most 9 0 [] l 0 rfl hi_zero (by simp) h
  exact ⟨m, j, e1, e2, by simpa using h2, by simpa using e3⟩
/-- Of two numbers' groups neither begins the other, but if they are the same. -/
theorem grp_prefix {n m : Nat} (hn : n < 9223372036854775808) (hm : m < 9223372036854775808) : (grp m).take (grp n).length = grp n ↔ n = m := by
  constructor
  · intro h
    have h1 := rdG_grp 9223372036854775807 m [] (by omega) hm
    have h2 := rdG_grp 9223372036854775807 n ((grp m).drop (grp n).length) (by omega) hn
    have e : grp n ++ (grp m).drop (grp n).length = grp m := by
      have := List.take_append_drop (grp n).length (grp m)
      rw [h] at this
      exact this
    rw [List.append_nil] at h1
    rw [e, h1] at h2
    have := congrArg Prod.fst h2
    simp at this
    omega
  · rintro rfl
    rw [List.take_of_length_le (Nat.le_refl _)]
end Go.Proofs.YtjhimmnogjmngaaDoor.OctF
end
/-! Rec -/
section
/- Records as lists of bytes: what is put, the next one, and all that stand at the beginning. -/
namespace Go.Proofs.YtjhimmnogjmngaaDoor.Rec
open Go Go.RowKit Go.Proofs.YtjhimmnogjmngaaDoor.Px Go.Proofs.YtjhimmnogjmngaaDoorW.PrintWords Go.Proofs.YtjhimmnogjmngaaDoor.Str Go.Proofs.YtjhimmnogjmngaaDoor.OctF Go.Proofs.YtjhimmnogjmngaaDoor.CrcB
def rc (p : List UInt8) : List UInt8 := tagL (grp p.length ++ p)
theorem rc_length (p : List UInt8) : (rc p).length = (grp p.length).length + p.length + 4 := by unfold rc; rw [tagL_length, List.length_append]
theorem rc_split (p r : List UInt8) : rc p ++ r = grp p.length ++ (p ++ (le4 (sumL (grp p.length ++ p)) ++ r)) := by unfold rc tagL; simp only [List.append_assoc]
theorem put_f (s : ByteArray) (h : s.size ≤ 65536) : record_Put.f s = some (ofL (rc s.data.toList), 0) := by
  unfold record_Put.f
  have hg := grp_length s.size (by omega)
  rw [if_neg (by omega), text_ok s (by omega)]
  simp only [Option.bind_some]
  rw [tag_f _ (by rw [ofL_size, List.length_append]; simp; omega), ofL_L]
  simp only [Option.bind_some, rc]
  rw [← size_L]
theorem put_no (s : ByteArray) (h : 65536 < s.size) : record_Put.f s = some (⟨#[]⟩, 2) := by
  unfold record_Put.f
  rw [if_pos (by omega)]
theorem long_f (x : Int) : record_Long.f x = some (if 0 ≤ x ∧ x ≤ 65536 then ((grp x.toNat).length : Int) + x + 4 else 0) := by
  unfold record_Long.f
  by_cases h0 : x < 0
  · rw [if_pos h0, if_neg (by omega)]
  · by_cases h1 : x > 65536
    · rw [if_neg h0, if_pos h1, if_neg (by omega)]
    · rw [if_neg h0, if_neg h1, if_pos (by omega)]
      obtain ⟨n, rfl⟩ : ∃ n : Nat, x = n := ⟨x.toNat, by omega⟩
      have hg := grp_length n (by omega)
      rw [groups_ok n (by omega)]
      simp only [Option.bind_some, ofL_size, Int.toNat_natCast]
      rw [wrap64_id (x := ((grp n).length : Int) + n) (by omega) (by omega), wrap64_id (by omega) (by omega)]
def gj (l : List UInt8) : Nat := (rdG 65536 l).2.1.toNat
def gm (l : List UInt8) : Nat := (rdG 65536 l).1.toNat
/-- The first record, as its payload and what stands behind. -/
def nx (l : List UInt8) : Option (List UInt8 × List UInt8) :=
  if (rdG 65536 l).2.2 = 0 ∧ gj l + gm l + 4 ≤ l.length ∧ run all (l.take (gj l + gm l + 4)) = residue then some ((l.drop (gj l)).take (gm l), l.drop (gj l + gm l + 4)) else none
def nxR (l : List UInt8) : ByteArray × ByteArray × Int := match nx l with | some (p, r) => (ofL p, ofL r, 0) | none => (⟨#[]⟩, ⟨#[]⟩, 260)
theorem nxR_none {l : List UInt8} (h : nx l = none) : nxR l = (⟨#[]⟩, ⟨#[]⟩, 260) := by unfold nxR; rw [h]
theorem nxR_some {l p r : List UInt8} (h : nx l = some (p, r)) : nxR l = (ofL p, ofL r, 0) := by unfold nxR; rw [h]
theorem next_f (s : ByteArray) (hs : s.size ≤ 1073741824) : record_Next.f s = some (nxR s.data.toList) := by
  have hsl : s.data.toList.length = s.size := by simp
  obtain ⟨g0, g1, g2, g3, g4⟩ := rdG_long 65536 s.data.toList
  have bad : ∀ (t : ByteArray) (c : Int), c ≠ 0 → octet_Reader_Bytes.f t c 4 = some (⟨#[]⟩, t, c) := by
    intro t c hc
    rw [rBytes, if_neg hc]
  unfold record_Next.f octet_Read.f
  simp only [Option.bind_some]
  rw [rText]
  simp only [Option.bind_some, if_true]
  by_cases he : (rdG 65536 s.data.toList).2.2 = 0
  · simp only [if_pos he]
    have hmm : (rdG 65536 s.data.toList).1 = (gm s.data.toList : Int) := by unfold gm; omega
    by_cases hg : (rdG 65536 s.data.toList).1 > ((s.data.toList.drop (rdG 65536 s.data.toList).2.1.toNat).length : Int)
    · simp only [if_pos hg]
      simp only [bad _ 10 (by decide), Option.bind_some, octet_Reader_Code.f, if_neg (show ¬ (10 : Int) = 0 by decide)]
      rw [nxR_none]
      unfold nx
      rw [if_neg]
      rintro ⟨_, h, _⟩
      rw [List.length_drop] at hg
      unfold gj at h
      omega
    · simp only [if_neg hg]
      have hgl : gj s.data.toList + gm s.data.toList ≤ s.size := by
        rw [List.length_drop] at hg
        unfold gj
        omega
      rw [rBytes]
      have e1 : (ofL ((s.data.toList.drop (rdG 65536 s.data.toList).2.1.toNat).drop (rdG 65536 s.data.toList).1.toNat)) = ofL (s.data.toList.drop (gj s.data.toList + gm s.data.toList)) := by rw [List.drop_drop]; rfl
      rw [e1]
      simp only [if_true, if_neg (show ¬ (4 : Int) < 0 by decide), ofL_size, List.length_drop, hsl]
      by_cases h4 : (4 : Int) > ((s.size - (gj s.data.toList + gm s.data.toList) : Nat) : Int)
      · simp only [if_pos h4, Option.bind_some, octet_Reader_Code.f, if_neg (show ¬ (10 : Int) = 0 by decide)]
        rw [nxR_none]
        unfold nx
        rw [if_neg]
        rintro ⟨_, h, _⟩
        omega
      · simp only [if_neg h4, Option.bind_some, octet_Reader_Code.f, octet_Reader_Left.f, if_true, ofL_L, List.drop_drop, ofL_size, List.length_drop, hsl]
        have e2 : wrap64 ((s.size : Int) - ((s.size - (gj s.data.toList + gm s.data.toList + (4 : Int).toNat) : Nat) : Int)) = ((gj s.data.toList + gm s.data.toList + 4 : Nat) : Int) := by
          rw [show (4 : Int).toNat = 4 from rfl, wrap64_id (by omega) (by omega)]
          omega
        rw [e2, if_pos (by omega), if_pos (by omega), Int.toNat_natCast, open_f _ (by rw [size_L, pre_L, List.length_take]; omega)]
        simp only [Option.bind_some, pre_L]
        have e3 : (s.extract 0 (gj s.data.toList + gm s.data.toList + 4)).size = gj s.data.toList + gm s.data.toList + 4 := by rw [size_L, pre_L, List.length_take]; omega
        rw [e3]
        by_cases hr : run all (s.data.toList.take (gj s.data.toList + gm s.data.toList + 4)) = residue
        · simp only [if_pos (show 4 ≤ gj s.data.toList + gm s.data.toList + 4 ∧ run all (s.data.toList.take (gj s.data.toList + gm s.data.toList + 4)) = residue from ⟨by omega, hr⟩), if_true]
          rw [nxR_some (p := (s.data.toList.drop (gj s.data.toList)).take (gm s.data.toList)) (r := s.data.toList.drop (gj s.data.toList + gm s.data.toList + 4)) (by unfold nx; rw [if_pos ⟨he, by omega, hr⟩])]
          congr 3
          apply ext
          rw [post_L, ofL_L]
        · simp only [if_neg (show ¬ (4 ≤ gj s.data.toList + gm s.data.toList + 4 ∧ run all (s.data.toList.take (gj s.data.toList + gm s.data.toList + 4)) = residue) from fun z => hr z.2), Bool.false_eq_true, if_false]
          rw [nxR_none (by unfold nx; rw [if_neg (fun z => hr z.2.2)])]
  · simp only [if_neg he]
    simp only [bad _ _ he, Option.bind_some, octet_Reader_Code.f, if_neg he]
    rw [nxR_none]
    unfold nx
    rw [if_neg (fun z => he z.1)]
theorem nx_rc (p r : List UInt8) (h : p.length ≤ 65536) : nx (rc p ++ r) = some (p, r) := by
  have hg := rdG_grp 65536 p.length (p ++ (le4 (sumL (grp p.length ++ p)) ++ r)) (by omega) (by omega)
  have hj : gj (rc p ++ r) = (grp p.length).length := by unfold gj; rw [rc_split, hg]; rfl
  have hm : gm (rc p ++ r) = p.length := by unfold gm; rw [rc_split, hg]; rfl
  unfold nx
  rw [hj, hm, ← rc_length, List.take_left, List.drop_left, if_pos ⟨by rw [rc_split, hg], by rw [List.length_append]; omega, run_tagL _⟩, rc_split, List.drop_left, List.take_left]
theorem nx_inv {l p r : List UInt8} (h : nx l = some (p, r)) : l = rc p ++ r ∧ p.length ≤ 65536 := by
  unfold nx at h
  by_cases hc : (rdG 65536 l).2.2 = 0 ∧ gj l + gm l + 4 ≤ l.length ∧ run all (l.take (gj l + gm l + 4)) = residue
  · rw [if_pos hc] at h
    obtain ⟨he, hl, hr⟩ := hc
    obtain ⟨m, j, e1, e2, hj, hg⟩ := rdG_inv 65536 l he
    have hgj : gj l = j := by unfold gj; rw [e2]; rfl
    have hgm : gm l = m := by unfold gm; rw [e1]; rfl
    have hm := (rdG_most 65536 9 0 l 0 (by decide) (by decide) (by decide)).1
    rw [show (pg 65536 9 0 l 0).1 = (rdG 65536 l).1 from rfl, e1] at hm
    rw [hgj, hgm] at h hl hr
    simp only [Option.some.injEq, Prod.mk.injEq] at h
    obtain ⟨rfl, rfl⟩ := h
    have hpl : ((l.drop j).take m).length = m := by rw [List.length_take, List.length_drop]; omega
    refine ⟨?_, by rw [hpl]; omega⟩
    have ht := (owns_iff (l.take (j + m + 4)) (by rw [List.length_take]; omega)).2 hr
    have e5 : rc ((l.drop j).take m) = l.take (j + m + 4) := by
      unfold rc
      rw [hpl, hg, ← ht]
      congr 1
      rw [List.take_take, List.length_take, show min (min (j + m + 4) l.length - 4) (j + m + 4) = j + m by omega, List.take_add]
    rw [e5, List.take_append_drop]
  · rw [if_neg hc] at h
    exact absurd h (by simp)
theorem nx_lt {l p r : List UInt8} (h : nx l = some (p, r)) : r.length + 5 ≤ l.length := by
  obtain ⟨e, hp⟩ := nx_inv h
  have := grp_length p.length (by omega)
  rw [e, List.length_append, rc_length]
  omega
theorem nx_nil : nx [] = none := by
  cases h : nx [] with
  | none => rfl
  | some x =>
    have := nx_lt (p := x.1) (r := x.2) h
    simp at this
/-- All records at the beginning: their payloads, and how many bytes they have. -/
def sc (l : List UInt8) : List (List UInt8) × Nat :=
  match h : nx l with
  | none => ([], 0)
  | some (p, r) => have : r.length < l.length := Nat.lt_of_lt_of_le (Nat.lt_add_of_pos_right (by decide)) (nx_lt h); (p :: (sc r).1, (l.length - r.length) + (sc r).2)
termination_by l.length
theorem sc_none {l : List UInt8} (h : nx l = none) : sc l = ([], 0) := by
  rw [sc]
  split
  · rfl
  · rename_i p r h'
    rw [h] at h'
    exact absurd h' (by simp)
theorem sc_some {l p r : List UInt8} (h : nx l = some (p, r)) : sc l = (p :: (sc r).1, (l.length - r.length) + (sc r).2) := by
  rw [sc]
  split
  · rename_i h'
    rw [h] at h'
    exact absurd h' (by simp)
  · rename_i p' r' h'
    rw [h] at h'
    simp only [Option.some.injEq, Prod.mk.injEq] at h'
    obtain ⟨rfl, rfl⟩ := h'
    rfl
theorem sc_len (n : Nat) : ∀ l : List UInt8, l.length ≤ n → 5 * (sc l).1.length ≤ (sc l).2 ∧ (sc l).2 ≤ l.length := by
  induction n with
  | zero =>
    intro l h
    rw [List.length_eq_zero_iff.mp (Nat.le_zero.mp h), sc_none nx_nil]
    simp
  | succ n ih =>
    intro l h
    cases hn : nx l with
    | none => rw [sc_none hn]; simp
    | some x =>
      obtain ⟨p, r⟩ := x
      have := nx_lt hn
      have := ih r (by omega)
      rw [sc_some hn]
      simp only [List.length_cons]
      omega
theorem scan_l0 (s : ByteArray) (hs : s.size ≤ 1073741824) (n : Nat) : ∀ (l : List UInt8) (acc : List ByteArray) (i : Nat), l.length ≤ n → s.data.toList.drop i = l → i ≤ s.size → acc.length ≤ i → Ev (fun k => record_Scan.l0 k s acc (i : Int)) (acc ++ (sc l).1.map ofL, ((i + (sc l).2 : Nat) : Int)) := by
  have hsl : s.data.toList.length = s.size := by simp
  induction n with
  | zero =>
    intro l acc i hl hd hi ha
    have h0 : l = [] := List.length_eq_zero_iff.mp (Nat.le_zero.mp hl)
    have hlen := congrArg List.length hd
    rw [List.length_drop, h0] at hlen
    rw [h0, sc_none nx_nil]
    refine Ev.step (f := fun _ => some (acc, (i : Int))) (fun k => ?_) (by simpa using Ev.now (acc, (i : Int)))
    simp only [record_Scan.l0]
    rw [if_neg (by simp at hlen; omega)]
  | succ n ih =>
    intro l acc i hl hd hi ha
    have hlen := congrArg List.length hd
    rw [List.length_drop, hsl] at hlen
    by_cases h0 : i = s.size
    · have h0 : l = [] := List.length_eq_zero_iff.mp (by omega)
      rw [h0, sc_none nx_nil]
      refine Ev.step (f := fun _ => some (acc, (i : Int))) (fun k => ?_) (by simpa using Ev.now (acc, (i : Int)))
      simp only [record_Scan.l0]
      rw [if_neg (by omega)]
    · have hx : record_Next.f (s.extract ((i : Nat) : Int).toNat s.size) = some (nxR l) := by
        rw [next_f _ (by rw [size_L, post_L, List.length_drop]; omega), post_L, Int.toNat_natCast, hd]
      cases hn : nx l with
      | none =>
        rw [sc_none hn]
        refine Ev.step (f := fun _ => some (acc, (i : Int))) (fun k => ?_) (by simpa using Ev.now (acc, (i : Int)))
        simp only [record_Scan.l0]
        rw [if_pos (by omega), if_pos (by omega), if_pos (by omega), hx, nxR_none hn]
        simp only [Option.bind_some, if_neg (show ¬ (260 : Int) = 0 by decide)]
      | some x =>
        obtain ⟨p, r⟩ := x
        have hlt := nx_lt hn
        obtain ⟨e, _⟩ := nx_inv hn
        have hrd : s.data.toList.drop (s.size - r.length) = r := by
          have e2 : s.size - r.length = i + (l.length - r.length) := by omega
          rw [e2, ← List.drop_drop, hd]
          have e3 : l.length - r.length = (rc p).length := by rw [e, List.length_append]; omega
          rw [e3, e, List.drop_left]
        have h := ih r (acc ++ [ofL p]) (s.size - r.length) (by omega) hrd (by omega) (by rw [List.length_append, List.length_singleton]; omega)
        rw [sc_some hn]
        refine Ev.step (f := fun k => record_Scan.l0 k s (acc ++ [ofL p]) ((s.size - r.length : Nat) : Int)) (fun k => ?_) ?_
        · simp only [record_Scan.l0]
          rw [if_pos (by omega), if_pos (by omega), if_pos (by omega), hx, nxR_some hn]
          simp only [Option.bind_some, if_true]
          rw [if_pos (by omega), ofL_size, wrap64_id (by omega) (by omega)]
          congr 1
          omega
        · simp only [List.map_cons]
          rw [List.append_assoc] at h
          rw [show i + (l.length - r.length + (sc r).2) = s.size - r.length + (sc r).2 by omega]
          exact h
theorem scan_ev (s : ByteArray) (hs : s.size ≤ 1073741824) : Ev (fun k => record_Scan.f k s) ((sc s.data.toList).1.map ofL, ((sc s.data.toList).2 : Int)) := by
  have := scan_l0 s hs s.data.toList.length s.data.toList [] 0 (by omega) rfl (by omega) (by simp)
  unfold record_Scan.f
  simpa using this
def recs (ps : List (List UInt8)) : List UInt8 := ps.flatMap rc
theorem sc_recs (ps : List (List UInt8)) (r : List UInt8) (h : ∀ p ∈ ps, p.length ≤ 65536) : sc (recs ps ++ r) = (ps ++ (sc r).1, (recs ps).length + (sc r).2) := by
  induction ps with
  | nil => simp [recs]
  | cons p ps ih =>
    have e : recs (p :: ps) ++ r = rc p ++ (recs ps ++ r) := by simp [recs, List.append_assoc]
    rw [e, sc_some (nx_rc p (recs ps ++ r) (h p (by simp))), ih (fun q hq => h q (by simp [hq]))]
    simp only [List.cons_append, Prod.mk.injEq, true_and]
    simp only [recs, List.flatMap_cons, List.length_append]
    omega
/-- Cut anywhere: just those are told that are whole. -/
theorem sc_cut (ps : List (List UInt8)) : ∀ k : Nat, (∀ p ∈ ps, p.length ≤ 65536) → ∃ M, M ≤ ps.length ∧ (∀ i, i < ps.length → ((recs (ps.take (i + 1))).length ≤ k ↔ i + 1 ≤ M)) ∧ sc ((recs ps).take k) = (ps.take M, (recs (ps.take M)).length) := by
  induction ps with
  | nil =>
    intro k _
    refine ⟨0, by simp, by simp, ?_⟩
    simp only [recs, List.flatMap_nil, List.take_nil, List.length_nil]
    exact sc_none nx_nil
  | cons p ps ih =>
    intro k h
    have e : recs (p :: ps) = rc p ++ recs ps := by simp [recs]
    by_cases hk : (rc p).length ≤ k
    · obtain ⟨M, hM, hi, hs⟩ := ih (k - (rc p).length) (fun q hq => h q (by simp [hq]))
      refine ⟨M + 1, by simp; omega, ?_, ?_⟩
      · intro i hil
        rw [List.take_succ_cons]
        have e1 : (recs (p :: ps.take i)).length = (rc p).length + (recs (ps.take i)).length := by simp [recs]
        rw [e1]
        cases i with
        | zero => simp [recs]; omega
        | succ i =>
          have := hi i (by simp at hil; omega)
          omega
      · rw [e, List.take_append, List.take_of_length_le hk, sc_some (nx_rc p _ (h p (by simp))), hs, List.take_succ_cons]
        simp only [Prod.mk.injEq, true_and]
        simp only [recs, List.flatMap_cons, List.length_append]
        omega
    · refine ⟨0, by simp, ?_, ?_⟩
      · intro i hil
        rw [List.take_succ_cons]
        have e1 : (recs (p :: ps.take i)).length = (rc p).length + (recs (ps.take i)).length := by simp [recs]
        rw [e1]
        omega
      · rw [List.take_zero, e, List.take_append_of_le_length (by omega)]
        refine sc_none ?_
        cases hn : nx ((rc p).take k) with
        | none => rfl
        | some x =>
          obtain ⟨q, r⟩ := x
          obtain ⟨e2, hq⟩ := nx_inv hn
          have e3 : rc p = rc q ++ (r ++ (rc p).drop k) := by rw [← List.append_assoc, ← e2, List.take_append_drop]
          have h1 := nx_rc p [] (h p (by simp))
          rw [List.append_nil, e3, nx_rc q _ hq] at h1
          simp only [Option.some.injEq, Prod.mk.injEq] at h1
          have h2 := congrArg List.length h1.2
          rw [List.length_append, List.length_drop] at h2
          simp at h2
          omega
end Go.Proofs.YtjhimmnogjmngaaDoor.Rec
end
/-! Cut -/
section
/- A text cut to 200 bytes, and texts compared one by one. -/
namespace Go.Proofs.YtjhimmnogjmngaaDoor.Cut
open Go Go.RowKit Go.Proofs.YtjhimmnogjmngaaDoor.Px Go.Proofs.YtjhimmnogjmngaaDoorW.PrintWords Go.Proofs.YtjhimmnogjmngaaDoor.Str
def cutL (s : ByteArray) : List UInt8 := s.data.toList.take 200
theorem cut_f (s : ByteArray) : gongbook_Cut.f s 200 = some (ofL (cutL s)) := by
  unfold gongbook_Cut.f cutL
  by_cases h : (s.size : Int) > 200
  · rw [if_pos h, if_pos (by omega), if_pos (by omega)]
    congr 1
    apply ext
    rw [pre_L, ofL_L]
    rfl
  · rw [if_neg h, List.take_of_length_le (by simp; omega), ofL_of]
theorem cutL_length (s : ByteArray) : (cutL s).length ≤ 200 := by unfold cutL; rw [List.length_take]; omega
theorem rdOf_getD (l : List ByteArray) (i : Nat) : rdOf ByteArray.empty l (i : Int) = l.getD i ByteArray.empty := by unfold rdOf; rw [Int.toNat_natCast]
theorem same_l0 (a b : List ByteArray) (hb : a.length = b.length) (hl : a.length ≤ 4611686018427387904) (d : Nat) : ∀ (i : Nat) (t : Bool), i + d = a.length → Ev (fun k => gongbook_SameTexts.l0 k a b t (i : Int)) (t && decide (a.drop i = b.drop i)) := by
  induction d with
  | zero =>
    intro i t hi
    refine Ev.step (f := fun _ => some t) (fun k => ?_) ?_
    · simp only [gongbook_SameTexts.l0]
      cases t
      · rw [if_neg (by decide)]
      · rw [if_pos rfl, if_neg (by omega)]
    · rw [List.drop_of_length_le (by omega), List.drop_of_length_le (by omega)]
      simpa using Ev.now t
  | succ d ih =>
    intro i t hi
    cases t with
    | false =>
      refine Ev.step (f := fun _ => some false) (fun k => ?_) (by simpa using Ev.now false)
      simp only [gongbook_SameTexts.l0]
      rw [if_neg (by decide)]
    | true =>
      have h := ih (i + 1) ((rdOf ByteArray.empty a (i : Int)).toList == (rdOf ByteArray.empty b (i : Int)).toList) (by omega)
      refine Ev.step (f := fun k => gongbook_SameTexts.l0 k a b ((rdOf ByteArray.empty a (i : Int)).toList == (rdOf ByteArray.empty b (i : Int)).toList) ((i + 1 : Nat) : Int)) (fun k => ?_) ?_
      · simp only [gongbook_SameTexts.l0]
        rw [if_pos trivial, if_pos (by omega), if_pos (by omega), if_pos (by omega), wrap64_id (by omega) (by omega)]
        rfl
      · have ha : i < a.length := by omega
        have hb' : i < b.length := by omega
        have e : (true && decide (a.drop i = b.drop i)) = (((rdOf ByteArray.empty a (i : Int)).toList == (rdOf ByteArray.empty b (i : Int)).toList) && decide (a.drop (i + 1) = b.drop (i + 1))) := by
          rw [List.drop_eq_getElem_cons ha, List.drop_eq_getElem_cons hb', rdOf_getD, rdOf_getD, List.getD_eq_getElem?_getD, List.getD_eq_getElem?_getD, List.getElem?_eq_getElem ha, List.getElem?_eq_getElem hb', Option.getD_some, Option.getD_some]
          simp only [Bool.true_and, List.cons.injEq, Bool.decide_and]
          congr 1
          rw [Bool.eq_iff_iff, decide_eq_true_eq, beq_iff_eq, toList_iff]
        rw [e]
        exact h
theorem same_ev (a b : List ByteArray) (hl : a.length ≤ 4611686018427387904) (hb : b.length ≤ 4611686018427387904) : Ev (fun k => gongbook_SameTexts.f k a b) (decide (a = b)) := by
  unfold gongbook_SameTexts.f
  by_cases h : a.length = b.length
  · have := same_l0 a b h hl a.length 0 true (by omega)
    rw [List.drop_zero, List.drop_zero, Bool.true_and] at this
    rw [show ((a.length : Int) == (b.length : Int)) = true from beq_iff_eq.mpr (by omega)]
    exact this
  · have hn : ¬ a = b := fun e => h (by rw [e])
    rw [decide_eq_false hn, show ((a.length : Int) == (b.length : Int)) = false from beq_eq_false_iff_ne.mpr (by omega)]
    refine Ev.step (f := fun _ => some false) (fun k => ?_) (Ev.now false)
    simp only [gongbook_SameTexts.l0]
    rw [if_neg (by decide)]
end Go.Proofs.YtjhimmnogjmngaaDoor.Cut
end
/-! RecW -/
section
/- What the laws of records have in common: the example, and records written one behind the other. -/
namespace Go.Proofs.YtjhimmnogjmngaaDoor.Rec
open Go Go.RowKit Go.Proofs.YtjhimmnogjmngaaDoor.Px Go.Proofs.YtjhimmnogjmngaaDoorW.PrintWords Go.Proofs.YtjhimmnogjmngaaDoor.Str Go.Proofs.YtjhimmnogjmngaaDoor.OctF Go.Proofs.YtjhimmnogjmngaaDoor.CrcB Go.Proofs.YtjhimmnogjmngaaDoor.Cut
theorem works_f : gonglaw26_works.f = some true := by
  unfold gonglaw26_works.f
  have hr := rc_length [97, 98, 99]
  have hg := grp_length 3 (by decide)
  have e3 : grp 3 = [3] := by
    unfold grp
    rw [show 3 / 128 = 0 by decide, hi_zero]
    decide
  have e4 : rc [97, 98, 99] = tagL [3, 97, 98, 99] := by
    show tagL (grp 3 ++ [97, 98, 99]) = _
    rw [e3]
    rfl
  rw [put_f _ (by decide)]
  simp only [Option.bind_some]
  rw [show ([97, 98, 99] : List UInt8).length = 3 from rfl] at hr
  have e5 : (ofL (rc [97, 98, 99]) ++ (⟨#[120]⟩ : ByteArray)).data.toList = rc [97, 98, 99] ++ [120] := by rw [app_L, ofL_L]
  rw [if_pos (by rw [ofL_size]; omega), next_f _ (by rw [size_L, e5, List.length_append, List.length_singleton]; omega), e5, nxR_some (nx_rc [97, 98, 99] [120] (by decide)), tag_f _ (by decide)]
  simp only [Option.bind_some, toList_L, ofL_L]
  rw [e4]
  simp only [if_true]
  rfl
def pl (l : List ByteArray) : List (List UInt8) := (l.take 30).map cutL
def ends (ps : List (List UInt8)) (n : Nat) : List Int := (List.range n).map fun i => ((recs (ps.take (i + 1))).length : Int)
theorem pl_length (l : List ByteArray) : (pl l).length = min 30 l.length := by simp [pl]
theorem pl_short (l : List ByteArray) : ∀ p ∈ pl l, p.length ≤ 200 := by
  intro p hp
  unfold pl at hp
  obtain ⟨s, _, rfl⟩ := List.mem_map.mp hp
  exact cutL_length s
theorem pl_short' (l : List ByteArray) : ∀ p ∈ pl l, p.length ≤ 65536 := fun p hp => Nat.le_trans (pl_short l p hp) (by decide)
theorem recs_length (ps : List (List UInt8)) (h : ∀ p ∈ ps, p.length ≤ 200) : (recs ps).length ≤ 213 * ps.length := by
  induction ps with
  | nil => simp [recs]
  | cons p ps ih =>
    have h1 := h p (by simp)
    have h2 := ih (fun q hq => h q (by simp [hq]))
    have h3 := grp_length p.length (by omega)
    have h4 := rc_length p
    simp only [recs, List.flatMap_cons, List.length_append, List.length_cons] at h2 ⊢
    omega
theorem take_snoc {α : Type} (l : List α) (i : Nat) (d : α) (h : i < l.length) : l.take (i + 1) = l.take i ++ [l.getD i d] := by
  rw [List.take_succ_eq_append_getElem h, List.getD_eq_getElem?_getD, List.getElem?_eq_getElem h, Option.getD_some]
theorem recs_snoc (ps : List (List UInt8)) (i : Nat) (h : i < ps.length) : recs (ps.take (i + 1)) = recs (ps.take i) ++ rc (ps.getD i []) := by
  rw [take_snoc ps i [] h]
  simp [recs, List.flatMap_append]
theorem pl_getD (l : List ByteArray) (i : Nat) (h : i < (pl l).length) : (pl l).getD i [] = cutL (l.getD i ByteArray.empty) := by
  have h1 := pl_length l
  have h2 : i < l.length := by omega
  have h3 : i < (l.take 30).length := by rw [List.length_take]; omega
  simp [pl, List.getD_eq_getElem?_getD, show i < 30 by omega, h2]
theorem recs_take (l : List ByteArray) (i : Nat) : (recs ((pl l).take i)).length ≤ 6390 := by
  have h := recs_length ((pl l).take i) (fun p hp => pl_short l p (List.mem_of_mem_take hp))
  have h1 := pl_length l
  rw [List.length_take] at h
  omega
theorem written_l0 (l : List ByteArray) (hl : l.length ≤ 4611686018427387904) (d : Nat) : ∀ i : Nat, i + d = (pl l).length → Ev (fun k => gonglaw26_written.l0 k l (ofL (recs ((pl l).take i))) (((pl l).take i).map ofL) (ends (pl l) i) (i : Int)) (ofL (recs (pl l)), (pl l).map ofL, ends (pl l) (pl l).length) := by
  have hlen := pl_length l
  induction d with
  | zero =>
    intro i hi
    have fin : Ev (fun k => gonglaw26_written.j1 k l (ofL (recs ((pl l).take i))) (((pl l).take i).map ofL) (ends (pl l) i) (i : Int) false) (ofL (recs (pl l)), (pl l).map ofL, ends (pl l) (pl l).length) := by
      refine Ev.step (f := fun _ => some _) (fun k => ?_) (Ev.now _)
      simp only [gonglaw26_written.j1]
      rw [if_neg (by decide), List.take_of_length_le (by omega), show i = (pl l).length by omega]
    refine Ev.step (fun k => ?_) fin
    simp only [gonglaw26_written.l0]
    by_cases h : (i : Int) < (l.length : Int)
    · rw [if_pos h, decide_eq_false (by omega)]
    · rw [if_neg h]
  | succ d ih =>
    intro i hi
    have c1 : (0 : Int) ≤ (i : Int) := by omega
    have c2 : (i : Int) < (l.length : Int) := by omega
    have hc := cutL_length (l.getD i ByteArray.empty)
    have hT := recs_take l i
    have hg := grp_length (cutL (l.getD i ByteArray.empty)).length (by omega)
    have hr := rc_length (cutL (l.getD i ByteArray.empty))
    refine Ev.step (f := fun k => gonglaw26_written.j1 k l (ofL (recs ((pl l).take i))) (((pl l).take i).map ofL) (ends (pl l) i) (i : Int) true) (fun k => ?_) ?_
    · simp only [gonglaw26_written.l0]
      rw [if_pos c2, decide_eq_true (by omega)]
    · refine Ev.step (fun k => ?_) (ih (i + 1) (by omega))
      simp only [gonglaw26_written.j1]
      rw [if_pos trivial, if_pos c1, if_pos c2, rdOf_getD, cut_f]
      simp only [Option.bind_some]
      rw [put_f _ (by rw [ofL_size]; omega), ofL_L]
      simp only [Option.bind_some]
      have hel : (ends (pl l) i).length = i := by simp [ends]
      rw [if_pos (by rw [ofL_size, ofL_size]; omega), if_pos (by rw [List.length_map, List.length_take]; omega), if_pos (by rw [hel]; omega), wrap64_id (by omega) (by omega)]
      have e1 : ofL (recs ((pl l).take i)) ++ ofL (rc (cutL (l.getD i ByteArray.empty))) = ofL (recs ((pl l).take (i + 1))) := by
        apply ext
        rw [app_L, ofL_L, ofL_L, ofL_L, recs_snoc _ i (by omega), pl_getD l i (by omega)]
      have e2 : ((pl l).take i).map ofL ++ [ofL (cutL (l.getD i ByteArray.empty))] = ((pl l).take (i + 1)).map ofL := by
        rw [take_snoc (pl l) i [] (by omega), List.map_append, pl_getD l i (by omega)]
        rfl
      rw [e1, e2, ofL_size]
      congr 1
      simp only [ends]
      rw [List.range_succ, List.map_append]
      rfl
theorem written_ev (l : List ByteArray) (hl : l.length ≤ 4611686018427387904) : Ev (fun k => gonglaw26_written.f k l) (ofL (recs (pl l)), (pl l).map ofL, ends (pl l) (pl l).length) := by
  have h := written_l0 l hl (pl l).length 0 (by omega)
  unfold gonglaw26_written.f
  simpa [recs, ends, ofL] using h
theorem map_ofL {a b : List (List UInt8)} (h : a.map ofL = b.map ofL) : a = b := by
  have := congrArg (List.map fun s : ByteArray => s.data.toList) h
  simpa [List.map_map, Function.comp_def, ofL_L] using this
end Go.Proofs.YtjhimmnogjmngaaDoor.Rec
end
/-! OctT -/
section
/- The document's text with its length ahead. -/
namespace Go.Proofs.YtjhimmnogjmngaaDoor.OctF
open Go Go.RowKit Go.Proofs.YtjhimmnogjmngaaDoor.Px Go.Proofs.YtjhimmnogjmngaaDoorW.PrintWords Go.Proofs.YtjhimmnogjmngaaDoor.Str
theorem ref_Text_ev (s : ByteArray) (h : s.size ≤ 1073741824) : Ev (fun k => gongref01_Text.f k s) (ofL (grp s.size ++ s.data.toList)) := by
  unfold gongref01_Text.f
  refine Ev.bind (ref_Grouped_ev s.size (by omega)) ?_
  have := grp_length s.size (by omega)
  refine Ev.congr (f := fun _ => some _) (fun k => ?_) (Ev.now _)
  rw [ofL_size, if_pos (by omega)]
  congr 1
end Go.Proofs.YtjhimmnogjmngaaDoor.OctF
end
/-! CrcR -/
section
/- The document's sums are the registers' words, too. -/
namespace Go.Proofs.YtjhimmnogjmngaaDoor.CrcB
open Go Go.RowKit Go.Proofs.YtjhimmnogjmngaaDoor.Px Go.Proofs.YtjhimmnogjmngaaDoorW.PrintWords Go.Proofs.YtjhimmnogjmngaaDoor.Str

theorem ref_step_l0 (c : W) (d : Nat) : ∀ (x : W) (i : Int), i = 8 - (d : Int) → d ≤ 8 → Ev (fun k => gongref02_step.l0 k (I c) (I x) i) (I ((c >>> 8) ^^^ An d x)) := by
  induction d with
  | zero =>
    intro x i hi _
    refine Ev.step (f := fun _ => some (I ((c >>> 8) ^^^ x))) (fun k => ?_) (Ev.now _)
    simp only [gongref02_step.l0]
    rw [if_neg (by omega), I_256, xor_II]
  | succ d ih =>
    intro x i hi hd
    refine Ev.step (f := fun k => gongref02_step.l0 k (I c) (I (A x)) (i + 1)) (fun k => ?_) (ih (A x) (i + 1) (by omega) (by omega))
    simp only [gongref02_step.l0]
    rw [if_pos (by omega), wrap64_id (by omega) (by omega), ← A_I]
    split <;> rfl
theorem and255 (c : W) : (c &&& 255#32) = c &&& BitVec.ofNat 32 (2 ^ 8 - 1) := rfl
theorem ref_step_ev (c : W) (b : Int) (u : UInt8) (hb : b = (u.toNat : Int)) : Ev (fun k => gongref02_step.f k (I c) b) (I (step c (byte u))) := by
  subst hb
  have hu := u.toNat_lt
  have e : (u.toNat : Int) % 4294967296 = I (byte u) := by
    unfold I byte
    rw [BitVec.toNat_ofNat]
    omega
  have e2 : Go.bits .and .u32 (Go.bits .xor .u32 (I c) (I (byte u))) 255 = I ((c ^^^ byte u) &&& 255#32) := by
    rw [xor_II, show (255 : Int) = I 255#32 by decide, and_I, B_I, B_I]
  refine Ev.congr (f := fun k => gongref02_step.l0 k (I c) (I ((c ^^^ byte u) &&& 255#32)) 0) (fun k => by unfold gongref02_step.f; rw [e, e2]) ?_
  have h := ref_step_l0 c 8 ((c ^^^ byte u) &&& 255#32) 0 (by omega) (by omega)
  have e3 : (c >>> 8) ^^^ An 8 ((c ^^^ byte u) &&& 255#32) = step c (byte u) := by
    unfold step
    rw [and255, An_split 8 (c ^^^ byte u), BitVec.ushiftRight_xor_distrib]
    have : byte u >>> 8 = 0#32 := by
      apply BitVec.eq_of_toNat_eq
      rw [BitVec.toNat_ushiftRight, Nat.shiftRight_eq_div_pow]
      unfold byte
      simp only [BitVec.toNat_ofNat]
      omega
    rw [this, BitVec.xor_zero]
  rw [e3] at h
  exact h

theorem run_drop (c : W) (l : List UInt8) (i : Nat) (h : i < l.length) : run c (l.drop i) = run (step c (byte (l.getD i 0))) (l.drop (i + 1)) := by
  rw [List.drop_eq_getElem_cons h, run_cons]
  simp [List.getD, h]
theorem ref_Sum_l0 (s : ByteArray) (hs : s.size ≤ 1073741824) (d : Nat) : ∀ (c : W) (i : Nat), s.size = i + d → Ev (fun k => gongref02_Sum.l0 k s (I c) (i : Int)) (I (run c (s.data.toList.drop i) ^^^ all)) := by
  induction d with
  | zero =>
    intro c i hi
    refine Ev.step (f := fun _ => some (I (c ^^^ all))) (fun k => ?_) ?_
    · simp only [gongref02_Sum.l0]
      rw [if_neg (by omega), I_all, xor_II]
      have := I_range (c ^^^ all)
      rw [wrap64_id (by omega) (by omega)]
    · rw [List.drop_of_length_le (by simp; omega), run_nil]
      exact Ev.now _
  | succ d ih =>
    intro c i hi
    have hlt : i < s.size := by omega
    have hc : (i : Int) < (s.size : Int) := by omega
    refine Ev.step (f := fun k => (gongref02_step.f k (I c) (bt s (i : Int))).bind fun t => gongref02_Sum.l0 k s t (wrap64 ((i : Int) + 1))) (fun k => ?_) ?_
    · simp only [gongref02_Sum.l0]
      rw [if_pos hc, if_pos (by omega)]
    · refine Ev.bind (ref_step_ev c _ (s.data.toList.getD i 0) (bt_L hlt)) ?_
      rw [run_drop c _ i (by simpa using hlt), wrap64_id (by omega) (by omega)]
      exact ih _ (i + 1) (by omega)
theorem ref_Sum_ev (s : ByteArray) (hs : s.size ≤ 1073741824) : Ev (fun k => gongref02_Sum.f k s) (I (sumL s.data.toList)) := by
  refine Ev.congr (f := fun k => gongref02_Sum.l0 k s (I all) ((0 : Nat) : Int)) (fun k => by unfold gongref02_Sum.f; rw [I_all]; rfl) ?_
  have := ref_Sum_l0 s hs s.size all 0 (by omega)
  simpa [sumL] using this

/-- The last bytes of a number, the highest first. -/
def padL : Nat → Nat → List UInt8
  | 0, _ => []
  | w + 1, n => padL w (n / 256) ++ [UInt8.ofNat n]
theorem padL_length (w n : Nat) : (padL w n).length = w := by
  induction w generalizing n with
  | zero => rfl
  | succ w ih => simp [padL, ih]
theorem ref_Padded_l0 (w : Int) (d : Nat) : ∀ (n : Nat) (s : ByteArray) (i : Int), w = i + (d : Int) → w ≤ 1000 → 0 ≤ i → n < 9223372036854775808 → s.size ≤ 2000 - d →
    Ev (fun k => gongref01_Padded.l0 k (n : Int) w s i) (ofL (padL d n ++ s.data.toList)) := by
  induction d with
  | zero =>
    intro n s i hi hw h0 hn hs
    refine Ev.step (f := fun _ => some s) (fun k => ?_) ?_
    · simp only [gongref01_Padded.l0]
      rw [if_neg (by omega)]
    · simp only [padL, List.nil_append]
      rw [ofL_of]
      exact Ev.now _
  | succ d ih =>
    intro n s i hi hw h0 hn hs
    have e1 : Int.tmod (n : Int) 256 = (n % 256 : Nat) := by rw [Int.tmod_eq_emod_of_nonneg (by omega)]; omega
    have e2 : Int.tdiv (n : Int) 256 = (n / 256 : Nat) := by rw [Int.tdiv_eq_ediv_of_nonneg (by omega)]; omega
    have e3 : (strOfNums [Int.tmod (n : Int) 256 % 256]) = ofL [UInt8.ofNat n] := by
      apply ext
      rw [nums_L, ofL_L, e1]
      simp only [List.map_cons, List.map_nil, List.cons.injEq, and_true]
      apply UInt8.toNat_inj.1
      rw [UInt8.toNat_ofNat', UInt8.toNat_ofNat']
      omega
    have hsz : (ofL [UInt8.ofNat n]).size + s.size ≤ 9223372036854775807 := by simp; omega
    have hsum : padL (d + 1) n ++ s.data.toList = padL d (n / 256) ++ (ofL [UInt8.ofNat n] ++ s).data.toList := by simp [padL]
    rw [hsum]
    refine Ev.step (f := fun k => gongref01_Padded.l0 k ((n / 256 : Nat) : Int) w (ofL [UInt8.ofNat n] ++ s) (i + 1)) (fun k => ?_) (ih (n / 256) _ (i + 1) (by omega) hw (by omega) (by omega) ?_)
    · simp only [gongref01_Padded.l0]
      rw [if_pos (by omega)]
      simp only [Option.bind_some]
      rw [e3, if_pos hsz, e2, wrap64_id (by omega) (by omega), wrap64_id (by omega) (by omega)]
    · have : (ofL [UInt8.ofNat n] ++ s).size = 1 + s.size := by rw [size_L, app_L]; simp; omega
      omega
theorem ref_Padded_ev (n : Nat) (w : Nat) (hn : n < 9223372036854775808) (hw : w ≤ 1000) : Ev (fun k => gongref01_Padded.f k (n : Int) (w : Int)) (ofL (padL w n)) := by
  have := ref_Padded_l0 (w : Int) w n ⟨#[]⟩ 0 (by omega) (by omega) (by omega) hn (by simp [size_L])
  simp only [List.append_nil] at this
  exact this

theorem ref_Tag_ev (s : ByteArray) (hs : s.size ≤ 1073741824) : Ev (fun k => gongref02_Tag.f k s) (ofL (tagL s.data.toList)) := by
  unfold gongref02_Tag.f
  refine Ev.bind (ref_Sum_ev s hs) ?_
  have hx := (sumL s.data.toList).isLt
  have hp := ref_Padded_ev (sumL s.data.toList).toNat 4 (by omega) (by omega)
  refine Ev.bind (a := ofL (padL 4 (sumL s.data.toList).toNat)) hp ?_
  have hsz : (ofL (padL 4 (sumL s.data.toList).toNat)).size = 4 := by rw [ofL_size, padL_length]
  have hb : ∀ i : Nat, i < 4 → bt (ofL (padL 4 (sumL s.data.toList).toNat)) (i : Int) = (((padL 4 (sumL s.data.toList).toNat).getD i 0).toNat : Int) := fun i hi => bt_L (by omega)
  refine Ev.congr (f := fun _ => some (ofL (tagL s.data.toList))) (fun k => ?_) (Ev.now _)
  rw [hsz, if_pos (by decide), if_pos (by decide), if_pos (by decide), if_pos (by decide)]
  simp only [Option.bind_some]
  rw [if_pos (by rw [nums_size]; simp; omega)]
  congr 1
  apply ext
  have h3 : bt (ofL (padL 4 (sumL s.data.toList).toNat)) 3 = _ := hb 3 (by omega)
  have h2 : bt (ofL (padL 4 (sumL s.data.toList).toNat)) 2 = _ := hb 2 (by omega)
  have h1 : bt (ofL (padL 4 (sumL s.data.toList).toNat)) 1 = _ := hb 1 (by omega)
  have h0 : bt (ofL (padL 4 (sumL s.data.toList).toNat)) 0 = _ := hb 0 (by omega)
  rw [app_L, nums_L, ofL_L, h3, h2, h1, h0]
  unfold tagL
  congr 1
  simp only [List.map_cons, List.map_nil, u8_nat, padL, List.nil_append, List.cons_append, le4, Nat.div_div_eq_div_mul]
  rfl
end Go.Proofs.YtjhimmnogjmngaaDoor.CrcB
end
/-! PureRecordWrites -/
section
/- The statement RecordWrites over whole numbers and lists alone. -/
namespace Go.Proofs.YtjhimmnogjmngaaDoor.Rec
open Go Go.RowKit Go.Proofs.YtjhimmnogjmngaaDoor.Px Go.Proofs.YtjhimmnogjmngaaDoorW.PrintWords Go.Proofs.YtjhimmnogjmngaaDoor.Str Go.Proofs.YtjhimmnogjmngaaDoor.OctF Go.Proofs.YtjhimmnogjmngaaDoor.CrcB
theorem ref_Put_ev (s : ByteArray) : Ev (fun k => gongref26_Put.f k s) (if s.size ≤ 65536 then (ofL (rc s.data.toList), 0) else (⟨#[]⟩, 2)) := by
  unfold gongref26_Put.f
  by_cases h : s.size ≤ 65536
  · rw [if_pos h]
    have hg := grp_length s.size (by omega)
    have ht := ref_Tag_ev (ofL (grp s.size ++ s.data.toList)) (by rw [ofL_size, List.length_append]; simp; omega)
    rw [ofL_L] at ht
    refine Ev.congr (f := fun k => (gongref01_Text.f k s).bind fun t => (gongref02_Tag.f k t).bind fun u => some (u, 0)) (fun k => by rw [if_neg (by omega)]) ?_
    refine Ev.bind (ref_Text_ev s (by omega)) ?_
    refine Ev.bind ht ?_
    unfold rc
    rw [← size_L]
    exact Ev.now _
  · rw [if_neg h]
    exact Ev.congr (fun k => by rw [if_pos (by omega)]) (Ev.now _)
theorem ref_Long_ev (x : Int) : Ev (fun k => gongref26_Long.f k x) (if 0 ≤ x ∧ x ≤ 65536 then ((grp x.toNat).length : Int) + x + 4 else 0) := by
  unfold gongref26_Long.f
  by_cases h0 : x < 0
  · rw [if_neg (by omega)]
    exact Ev.congr (fun k => by rw [if_pos h0]) (Ev.now _)
  · by_cases h1 : x > 65536
    · rw [if_neg (by omega)]
      exact Ev.congr (fun k => by rw [if_neg h0, if_pos h1]) (Ev.now _)
    · rw [if_pos (by omega)]
      obtain ⟨n, rfl⟩ : ∃ n : Nat, x = n := ⟨x.toNat, by omega⟩
      have hg := grp_length n (by omega)
      refine Ev.congr (f := fun k => (gongref01_Grouped.f k (n : Int)).bind fun t => some (wrap64 ((wrap64 ((t.size : Int) + n)) + 4))) (fun k => by rw [if_neg h0, if_neg h1]) ?_
      refine Ev.bind (ref_Grouped_ev n (by omega)) ?_
      rw [ofL_size, wrap64_id (x := ((grp n).length : Int) + n) (by omega) (by omega), wrap64_id (by omega) (by omega), Int.toNat_natCast]
      exact Ev.now _
end Go.Proofs.YtjhimmnogjmngaaDoor.Rec
namespace Go.Proofs.YtjhimmnogjmngaaDoor.Pure
open Go Go.RowKit Go.Proofs.YtjhimmnogjmngaaDoor.Px Go.Proofs.YtjhimmnogjmngaaDoorW.PrintWords Go.Proofs.YtjhimmnogjmngaaDoor.Str Go.Proofs.YtjhimmnogjmngaaDoor.OctF Go.Proofs.YtjhimmnogjmngaaDoor.CrcB Go.Proofs.YtjhimmnogjmngaaDoor.Rec
theorem RecordWrites : gonglaw26_RecordWrites.Pure := by
  intro s x hs _
  apply Ev.rounds
  have ht : Ev (fun k => gonglaw26_RecordWrites.j0 k s x true) true := by
    refine Ev.step (f := fun _ => some true) (fun k => ?_) (Ev.now _)
    simp only [gonglaw26_RecordWrites.j0]
    rw [if_pos trivial, works_f]
    rfl
  have hf : ∀ b, (b = false → s.size ≤ 131072 ∧ ¬ (5000 < s.size ∧ s.size ≤ 65536)) → Ev (fun k => gonglaw26_RecordWrites.j0 k s x b) true := by
    intro b hb
    cases b with
    | true => exact ht
    | false =>
      obtain ⟨hb1, hb2⟩ := hb rfl
      refine Ev.step (f := fun k => (record_Put.f s).bind fun bt162 => ((gongref26_Put.f k s).bind fun bt164 => (if bt162.1.toList = bt164.1.toList then (if bt162.2 = bt164.2 then ((record_Long.f x).bind fun t166 => ((gongref26_Long.f k x).bind fun t167 => (if t166 = t167 then ((record_Long.f (s.size : Int)).bind fun t168 => (if t168 = (bt162.1.size : Int) then ((gonglaw26_works.f).bind fun t169 => (some t169)) else (some false))) else (some false)))) else (some false)) else (some false)))) (fun k => ?_) ?_
      · simp only [gonglaw26_RecordWrites.j0]
        rw [if_neg (by decide)]
      · have hp : record_Put.f s = some (if s.size ≤ 65536 then (ofL (rc s.data.toList), 0) else (⟨#[]⟩, 2)) := by
          by_cases h : s.size ≤ 65536
          · rw [put_f s h, if_pos h]
          · rw [put_no s (by omega), if_neg h]
        rw [hp]
        simp only [Option.bind_some]
        refine Ev.bind (ref_Put_ev s) ?_
        simp only [if_true, long_f, Option.bind_some]
        refine Ev.bind (ref_Long_ev x) ?_
        simp only [if_true]
        refine Ev.congr (f := fun _ => some true) (fun k => ?_) (Ev.now _)
        rw [works_f, if_pos]
        · rfl
        · by_cases h : s.size ≤ 65536
          · have := rc_length s.data.toList
            rw [if_pos (by omega), if_pos h, ofL_size, this, Int.toNat_natCast, size_L]
            simp
          · rw [if_neg (by omega), if_neg h]
            rfl
  unfold gonglaw26_RecordWrites.f
  by_cases h5 : (s.size : Int) > 5000
  · by_cases h6 : (s.size : Int) ≤ 65536
    · exact Ev.congr (fun k => by rw [if_pos h5, if_pos h6]) ht
    · exact Ev.congr (fun k => by rw [if_pos h5, if_neg h6]) (hf _ (fun h => by rw [decide_eq_false_iff_not] at h; omega))
  · exact Ev.congr (fun k => by rw [if_neg h5]) (hf _ (fun h => by rw [decide_eq_false_iff_not] at h; omega))
end Go.Proofs.YtjhimmnogjmngaaDoor.Pure
end
/-! RecN -/
section
/- The document's next record is the program's. -/
namespace Go.Proofs.YtjhimmnogjmngaaDoor.Rec
open Go Go.RowKit Go.Proofs.YtjhimmnogjmngaaDoor.Px Go.Proofs.YtjhimmnogjmngaaDoorW.PrintWords Go.Proofs.YtjhimmnogjmngaaDoor.Str Go.Proofs.YtjhimmnogjmngaaDoor.OctF Go.Proofs.YtjhimmnogjmngaaDoor.CrcB
theorem tail_nx (s : ByteArray) (p : List UInt8) (hp : p.length ≤ 65536) (hq : ∀ q r, nx s.data.toList = some (q, r) → q = p) : gongref26_Next.tail s (ofL p) (ofL (rc p)) = nxR s.data.toList := by
  have hsl : s.data.toList.length = s.size := by simp
  have no : ((rc p).length ≤ s.size → s.data.toList.take (rc p).length = rc p → False) → nx s.data.toList = none := by
    intro h
    cases hn : nx s.data.toList with
    | none => rfl
    | some x =>
      obtain ⟨q, r⟩ := x
      have e := hq q r hn
      subst e
      obtain ⟨e, _⟩ := nx_inv hn
      have hl := congrArg List.length e
      rw [List.length_append] at hl
      exact absurd (by rw [e, List.take_left]) (fun z => h (by omega) z)
  unfold gongref26_Next.tail
  rw [ofL_size]
  by_cases h1 : ((rc p).length : Int) > (s.size : Int)
  · rw [if_pos h1, nxR_none (no (fun z _ => by omega))]
  · rw [if_neg h1, toList_L, toList_L, pre_L, ofL_L]
    by_cases h2 : s.data.toList.take (rc p).length = rc p
    · rw [if_pos h2]
      have e : s.data.toList = rc p ++ s.data.toList.drop (rc p).length := by
        have := (List.take_append_drop (rc p).length s.data.toList).symm
        rw [h2] at this
        exact this
      have hn := nx_rc p (s.data.toList.drop (rc p).length) hp
      rw [← e] at hn
      rw [nxR_some hn]
      congr 2
      apply ext
      rw [post_L, ofL_L]
    · rw [if_neg h2, nxR_none (no (fun _ z => h2 z))]
theorem ref_Next_ev (s : ByteArray) (hs : s.size ≤ 1073741824) : Ev (fun k => gongref26_Next.f k s) (nxR s.data.toList) := by
  have hsl : s.data.toList.length = s.size := by simp
  have ht := ref_Text_rd s hs 65536 0 (by omega)
  rw [List.drop_zero] at ht
  unfold gongref26_Next.f
  refine Ev.bind ht ?_
  unfold tout
  by_cases he : (rdG 65536 s.data.toList).2.2 = 0
  · rw [if_pos he]
    by_cases hg : (rdG 65536 s.data.toList).1 > ((s.data.toList.drop (rdG 65536 s.data.toList).2.1.toNat).length : Int)
    · rw [if_pos hg]
      rw [nxR_none]
      · exact Ev.congr (f := fun _ => some _) (fun k => by rw [if_neg (show ¬ (10 : Int) = 0 by decide)]) (Ev.now _)
      · unfold nx
        rw [if_neg]
        rintro ⟨_, h, _⟩
        rw [List.length_drop] at hg
        unfold gj gm at h
        omega
    · rw [if_neg hg]
      have hm := (rdG_most 65536 9 0 s.data.toList 0 (by decide) (by decide) (by decide)).1
      rw [show (pg 65536 9 0 s.data.toList 0).1 = (rdG 65536 s.data.toList).1 from rfl] at hm
      have hp : ((s.data.toList.drop (rdG 65536 s.data.toList).2.1.toNat).take (rdG 65536 s.data.toList).1.toNat).length ≤ 65536 := by rw [List.length_take]; omega
      have hq := ref_Put_ev (ofL ((s.data.toList.drop (rdG 65536 s.data.toList).2.1.toNat).take (rdG 65536 s.data.toList).1.toNat))
      rw [ofL_size, if_pos hp, ofL_L] at hq
      simp only [if_true]
      refine Ev.bind hq ?_
      rw [← tail_nx s _ hp]
      · exact Ev.now _
      · intro q r hn
        unfold nx at hn
        split at hn
        · simp only [Option.some.injEq, Prod.mk.injEq] at hn
          exact hn.1.symm
        · exact absurd hn (by simp)
  · rw [if_neg he, nxR_none]
    · exact Ev.congr (f := fun _ => some _) (fun k => by rw [if_neg he]) (Ev.now _)
    · unfold nx
      rw [if_neg (fun z => he z.1)]
end Go.Proofs.YtjhimmnogjmngaaDoor.Rec
end
/-! PureRecordReads -/
section
/- The statement RecordReads over whole numbers and lists alone. -/
namespace Go.Proofs.YtjhimmnogjmngaaDoor.Rec
open Go Go.RowKit Go.Proofs.YtjhimmnogjmngaaDoor.Px Go.Proofs.YtjhimmnogjmngaaDoorW.PrintWords Go.Proofs.YtjhimmnogjmngaaDoor.Str Go.Proofs.YtjhimmnogjmngaaDoor.OctF Go.Proofs.YtjhimmnogjmngaaDoor.CrcB Go.Proofs.YtjhimmnogjmngaaDoor.Cut
theorem ref_scan_l0 (x0 : ByteArray) (hx : x0.size ≤ 1073741824) (n : Nat) : ∀ (l : List UInt8) (acc : List ByteArray) (s : ByteArray), l.length ≤ n → s.data.toList = l → acc.length + l.length ≤ x0.size → Ev (fun k => gongref26_Scan.l0 k x0 acc s) (acc ++ (sc l).1.map ofL, ((x0.size - l.length + (sc l).2 : Nat) : Int)) := by
  have stop : ∀ (l : List UInt8) (acc : List ByteArray) (s : ByteArray), s.data.toList = l → acc.length + l.length ≤ x0.size → nx l = none → (acc, wrap64 ((x0.size : Int) - (s.size : Int))) = (acc ++ (sc l).1.map ofL, ((x0.size - l.length + (sc l).2 : Nat) : Int)) := by
    intro l acc s hl ha hn
    have hsz : s.size = l.length := by rw [size_L, hl]
    rw [sc_none hn, wrap64_id (by omega) (by omega)]
    simp
    omega
  induction n with
  | zero =>
    intro l acc s hn hl ha
    have h0 : l = [] := List.length_eq_zero_iff.mp (Nat.le_zero.mp hn)
    rw [← stop l acc s hl ha (by rw [h0]; exact nx_nil)]
    refine Ev.step (f := fun _ => some _) (fun k => ?_) (Ev.now _)
    simp only [gongref26_Scan.l0]
    rw [if_pos (by rw [toList_L, hl, h0])]
  | succ n ih =>
    intro l acc s hn hl ha
    have hsz : s.size = l.length := by rw [size_L, hl]
    by_cases h0 : l = []
    · rw [← stop l acc s hl ha (by rw [h0]; exact nx_nil)]
      refine Ev.step (f := fun _ => some _) (fun k => ?_) (Ev.now _)
      simp only [gongref26_Scan.l0]
      rw [if_pos (by rw [toList_L, hl, h0])]
    · have hN := ref_Next_ev s (by omega)
      rw [hl] at hN
      refine Ev.step (f := fun k => (gongref26_Next.f k s).bind fun b => if b.2.2 = 0 then (if acc.length < 8796093022208 then gongref26_Scan.l0 k x0 (acc ++ [b.1]) b.2.1 else none) else some (acc, wrap64 ((x0.size : Int) - (s.size : Int)))) (fun k => ?_) ?_
      · simp only [gongref26_Scan.l0]
        rw [if_neg (by rw [toList_L, hl]; exact h0)]
      · refine Ev.bind hN ?_
        cases hx' : nx l with
        | none =>
          rw [nxR_none hx', ← stop l acc s hl ha hx']
          exact Ev.congr (f := fun _ => some _) (fun k => by rw [if_neg (show ¬ (260 : Int) = 0 by decide)]) (Ev.now _)
        | some x =>
          obtain ⟨p, r⟩ := x
          have hlt := nx_lt hx'
          rw [nxR_some hx', sc_some hx']
          have h := ih r (acc ++ [ofL p]) (ofL r) (by omega) (ofL_L r) (by rw [List.length_append, List.length_singleton]; omega)
          refine Ev.congr (f := fun k => gongref26_Scan.l0 k x0 (acc ++ [ofL p]) (ofL r)) (fun k => ?_) ?_
          · simp only [if_true]
            rw [if_pos (by omega)]
          · rw [List.append_assoc] at h
            rw [show x0.size - l.length + (l.length - r.length + (sc r).2) = x0.size - r.length + (sc r).2 by omega]
            exact h
theorem ref_scan_ev (s : ByteArray) (hs : s.size ≤ 1073741824) : Ev (fun k => gongref26_Scan.f k s) ((sc s.data.toList).1.map ofL, ((sc s.data.toList).2 : Int)) := by
  have hsl : s.data.toList.length = s.size := by simp
  have := ref_scan_l0 s hs s.data.toList.length s.data.toList [] s (by omega) rfl (by simp)
  unfold gongref26_Scan.f
  rw [hsl, Nat.sub_self, Nat.zero_add] at this
  simpa using this
theorem spoil_l0 (d : Nat) : ∀ (i : Nat) (l : List ByteArray), l.length ≤ 4611686018427387904 → i + d = l.length → ∃ r, Ev (fun k => gongbook_SpoilTexts.l0 k l (i : Int)) r := by
  induction d with
  | zero =>
    intro i l hl hi
    refine ⟨l, Ev.step (f := fun _ => some l) (fun k => ?_) (Ev.now _)⟩
    simp only [gongbook_SpoilTexts.l0]
    rw [if_neg (by omega)]
  | succ d ih =>
    intro i l hl hi
    obtain ⟨r, hr⟩ := ih (i + 1) (l.set i ⟨#[97, 110, 111, 116, 104, 101, 114, 32, 111, 110, 101]⟩) (by simpa using hl) (by rw [List.length_set]; omega)
    refine ⟨r, Ev.step (fun k => ?_) hr⟩
    simp only [gongbook_SpoilTexts.l0]
    rw [if_pos (by omega), if_pos (by omega), wrap64_id (by omega) (by omega), Int.toNat_natCast]
    rfl
end Go.Proofs.YtjhimmnogjmngaaDoor.Rec
namespace Go.Proofs.YtjhimmnogjmngaaDoor.Pure
open Go Go.RowKit Go.Proofs.YtjhimmnogjmngaaDoor.Px Go.Proofs.YtjhimmnogjmngaaDoorW.PrintWords Go.Proofs.YtjhimmnogjmngaaDoor.Str Go.Proofs.YtjhimmnogjmngaaDoor.OctF Go.Proofs.YtjhimmnogjmngaaDoor.CrcB Go.Proofs.YtjhimmnogjmngaaDoor.Rec Go.Proofs.YtjhimmnogjmngaaDoor.Cut
theorem RecordReads : gonglaw26_RecordReads.Pure := by
  intro s hs
  apply Ev.rounds
  unfold gonglaw26_RecordReads.f
  by_cases h5 : (s.size : Int) > 5000
  · refine Ev.congr (f := fun _ => some true) (fun k => ?_) (Ev.now _)
    rw [if_pos h5, works_f]
    rfl
  · simp only [if_neg h5]
    have hsc := sc_len s.data.toList.length s.data.toList (Nat.le_refl _)
    have hsl : s.data.toList.length = s.size := by simp
    rw [next_f s (by omega)]
    simp only [Option.bind_some]
    refine Ev.bind (ref_Next_ev s (by omega)) ?_
    refine Ev.bind (scan_ev s (by omega)) ?_
    refine Ev.bind (ref_scan_ev s (by omega)) ?_
    refine Ev.bind (same_ev _ _ (by simp only [List.length_map]; omega) (by simp only [List.length_map]; omega)) ?_
    obtain ⟨r, hr⟩ := spoil_l0 ((sc s.data.toList).1.map ofL).length 0 ((sc s.data.toList).1.map ofL) (by simp only [List.length_map]; omega) (by omega)
    refine Ev.bind (show Ev (fun k => gongbook_SpoilTexts.f k ((sc s.data.toList).1.map ofL)) r from hr) ?_
    refine Ev.congr (f := fun _ => some true) (fun k => ?_) (Ev.now _)
    rw [works_f]
    simp
end Go.Proofs.YtjhimmnogjmngaaDoor.Pure
end
/-! Laid -/
section
/- From the rows' condition to the tables that the walks read. -/
namespace Go.Proofs.YtjhimmnogjmngaaDoor.Laid
open Go Go.RowKit
theorem half_data {H : Type} : Rows.laid_gong_crc_half (H := H) = Lib.tabData .u32 Crc.halfL := rfl
theorem tabs {W : World} (h : laidMetH Tryd.prog [("gong/crc.half", Rows.laid_gong_crc_half)] W) : Px.TabW W := by
  rw [MakeChecks.laidMetH_plain _ _ _ (by kernel_rfl), half_data] at h
  exact Lib.tabIs_of_head (g := 0) (t := 70) (e := 42) (n := 16) (by kernel_rfl) (by kernel_rfl) Tryd.underlying70 Tryd.underlying42 (by kernel_rfl) (by kernel_rfl) h
end Go.Proofs.YtjhimmnogjmngaaDoor.Laid
end
/-! CardRecordReads -/
section
/- RecordReads: for every input that the row speaks of the law returns true, and what came in reads as it did; the variables that it lists are tied to the program's text (the card). Condition: the listed table reads as the program's own initialisers lay it. -/
namespace Go.Proofs.YtjhimmnogjmngaaDoor.recordReads
open Go.ChangeShapes Go.WideShapes Go.ChangeAt Go.RowKit
open Go.ChangeMaps (open_string shut_string)
set_option linter.unusedVariables false
def laidL : List (String × DataW Unit) := [("gong/crc.half", Rows.laid_gong_crc_half)]
theorem own : ownKnob Tryd.prog.godebug = none := by kernel_rfl
/-- The door's own heap meets the condition: three closed facts. -/
theorem door_met (os : Os) (args : Array Value) : laidMetH Tryd.prog laidL ((World.doorLaid Tryd.prog 14 os).forCall (fun _ _ => 0) ⟨#[], args, []⟩).memory :=
  laidMetH_of_parts3 (fuel := 8) (laidMet_of_run' 8 (by kernel_rfl) (by kernel_rfl)) (by kernel_rfl) (by kernel_rfl)
set_option maxRecDepth 100000 in
theorem lifted (os : Os) (started : os.Started) (H : Type) (enc : TypeId × Value → H) :
    ReturnsInHanded {} Tryd.checked os 4 .any (fun w args => (Rows.recordReadsSpec.pre enc Tryd.prog Tryd.f4 [] false w args ∧ laidMetH Tryd.prog laidL w) ∧ sizedMet enc Tryd.prog Tryd.f4 (OpenSpec.ofChange Rows.recordReadsSpec) false w args)
      (Rows.recordReadsSpec.post enc Tryd.prog Tryd.f4 false true false false) := by
  refine returnsInHanded_of_change_and (C := Tryd.checked) (X := fun w _ => laidMetH Tryd.prog laidL w) (fun _ _ _ hh h => h.of_heap hh) own started (by kernel_rfl) Tryd.func4
    (ChangeSpec.witness_shaped (enc := enc) (C := Tryd.checked) (os := os) (X := fun w _ => laidMetH Tryd.prog laidL w) false (World.doorLaid Tryd.prog 14 os) #[.string ByteArray.empty] 8 rfl (World.shaped_of_RefB (by kernel_rfl) (by kernel_rfl)) (by kernel_rfl) (by kernel_rfl) (by kernel_rfl) (door_met os _)) ?_
  intro W base args ds gs before hval0 hW hcnd hsz0 hL _
  have HT : Px.TabW W := Laid.tabs hL
  have hsz : (DataW.weightsEach Tryd.prog (Tryd.f4.params.toList ++ Rows.recordReadsSpec.plain.varTypes Tryd.prog) (ds ++ gs)).all (· ≤ reachBytes) = true := hsz0
  have hval : ∀ (j : Nat) t v, Tryd.f4.params[j]? = some t → args[j]? = some v → Value.okWide Tryd.prog W .any base t v := hval0
  have hW' := hW
  obtain ⟨p, q, hA0, hV, rfl, hfz, hnd⟩ := hW
  have hA : DataW.TrodAll enc Tryd.prog W 0 (fun _ => true) true Tryd.f4.params.toList args.toList ds p := hA0
  rw [Tryd.params4] at hA hval hsz
  obtain ⟨v0, vs0, d0, ds0, p0, q0, hargs, rfl, rfl, h0, r0⟩ := trodAll_cons hA
  obtain ⟨rfl, rfl, rfl⟩ := trodAll_nil r0
  obtain rfl : args = #[v0] := by cases args; simp_all
  obtain ⟨rfl, rfl⟩ := trodVars_none hV
  obtain ⟨a0, rfl, rfl, rfl, y0⟩ := open_string Tryd.underlying9 (hval 0 9 v0 rfl rfl) h0
  have w0 : a0.size ≤ 140737488351232 := by
    have z := sized_string hsz (j := 0) (t := 9) rfl rfl
    rw [Array.length_toList] at z
    exact z
  clear hA0 hval0 hsz0 hsz
  refine (Px.gonglaw26_RecordReads.walk Pure.RecordReads a0 W HT w0).mono fun e W' ⟨he, bel⟩ => ?_
  subst he
  exact ⟨_, rfl, _, _, _, [], _, [], hW', trodAll_mk1 (shut_bool Tryd.underlying4 _), (trodAll_cons_mk (shut_string Tryd.underlying9 y0) trodAll_mk0), rfl, bel.frame _, fun h => by cases h⟩
theorem over : Rows.recordReadsRow.holds Tryd.pinned (OpenSpec.ofChange Rows.recordReadsSpec) :=
  OpenClaim.holds_of_wide 4 Tryd.f4 rfl rfl rfl rfl rfl rfl rfl ⟨rfl, rfl, rfl, rfl, rfl⟩ rfl rfl rfl rfl rfl (by kernel_rfl) Tryd.func4 (by kernel_rfl)
    (of_decide_eq_true (by kernel_rfl)) (by unfold Func.isWrapper; first | (rw [if_pos (by decide +kernel)]; kernel_rfl) | (rw [if_neg (by decide +kernel)]; exact ⟨rfl, rfl⟩))
    (fun os started H enc _ => lifted os started H enc)
/-- The tied card. -/
theorem proved : Rows.RecordReadsCardSaid :=
  Claim7.holds_tied_plain_at .later [] [.data] true (true, "307483383d0bb71566b017aa74341469999107bc826ace69558276faa85415d5") false
    over (fun _ h => by cases h) (by kernel_rfl) (fun _ h => by cases h) recordReads_row_tie rfl ⟨rfl, rfl⟩ (by kernel_rfl) rfl
    (fun f fn hf hfn => by
      obtain rfl : f = 4 := Option.some.inj ((show Tryd.prog.funcNamed "gong/gonglaw26.RecordReads" = some 4 by kernel_rfl).symm.trans hf) |>.symm
      obtain rfl : fn = Tryd.f4 := (Option.some.inj (Tryd.func4.symm.trans hfn)).symm
      exact ⟨by kernel_rfl, fun j t ht => by
        rw [Tryd.params4] at ht
        have hm : t ∈ [9] := by simpa using Array.mem_of_getElem? ht
        have hall : ([9].all fun u => !Tryd.prog.wantsStandIn u) = true := by kernel_rfl
        exact (show Tryd.prog.wantsStandIn t = false by simpa using List.all_eq_true.1 hall t hm)⟩)
    (by kernel_rfl)
#print axioms proved
end Go.Proofs.YtjhimmnogjmngaaDoor.recordReads
namespace Go.Proofs.YtjhimmnogjmngaaDoor
/-- The row, under a short name, for the claim. -/
theorem recordReads_holds : Rows.RecordReadsCardSaid := recordReads.proved
end Go.Proofs.YtjhimmnogjmngaaDoor
end
