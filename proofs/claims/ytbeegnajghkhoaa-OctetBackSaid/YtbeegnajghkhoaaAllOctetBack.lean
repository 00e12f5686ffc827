import Derived.Test.YtbeegnajghkhoaaPx35
import Derived.Laws.Strings
import Derived.Laws.BytesArg
import Derived.Test.YtbeegnajghkhoaaWWords
import Derived.Test.YtbeegnajghkhoaaPx1
import Derived.Test.YtbeegnajghkhoaaPx2
import Derived.Test.YtbeegnajghkhoaaPx9
import Derived.Test.YtbeegnajghkhoaaPx15
import Derived.Test.YtbeegnajghkhoaaPx20
import Derived.Test.YtbeegnajghkhoaaPx13
import Derived.Test.YtbeegnajghkhoaaPx16
import Derived.Test.YtbeegnajghkhoaaPx17
import Derived.Test.YtbeegnajghkhoaaOct
import Derived.Test.YtbeegnajghkhoaaPx4
import Derived.Test.YtbeegnajghkhoaaPx6
import Derived.Test.YtbeegnajghkhoaaPx7
import Derived.Test.YtbeegnajghkhoaaPx11
import Derived.Test.YtbeegnajghkhoaaPx3
import Derived.Test.YtbeegnajghkhoaaPx5
import Derived.Test.YtbeegnajghkhoaaPx8
import Derived.Test.YtbeegnajghkhoaaPx10
import Derived.Test.YtbeegnajghkhoaaPx18
import Derived.Test.YtbeegnajghkhoaaPx21
import Derived.Test.YtbeegnajghkhoaaPx22
import Derived.DataReads
import Derived.DataElems
import Derived.SizedLaws
import Derived.Lib.LaidTab
import Derived.ChangeShapes
import Derived.ChangeMaps
import Derived.Test.YtbeegnajghkhoaaRows
import Derived.WalkKit
import Derived.ProofKit
import Derived.OpenShut
import Derived.ShutString
import Derived.ChangeOld
import Derived.Below
/-! DOctetBack -/
section
/- The statement OctetBack over whole numbers and lists alone. -/
namespace Go.Proofs.Ytbeegnajghkhoaa.Px
open Go.RowKit
def gonglaw01_OctetBack.PureL : Prop := ∀ (l0 : List Int) (l1 : List ByteArray), (∀ z ∈ l0, (Lit.int .i64 z).wf = true) → l0.length * 8 ≤ 140737488351232 → (∀ z ∈ l1, z.size ≤ 140737488351232) → l1.length * 16 ≤ 140737488351232 → ∃ k, gonglaw01_OctetBack.f k l0 l1 = some true
end Go.Proofs.Ytbeegnajghkhoaa.Px
end
/-! Str -/
section
/- Texts as lists of bytes. -/
namespace Go.Proofs.Ytbeegnajghkhoaa.Str
open Go Go.Proofs.YtbeegnajghkhoaaW.PrintWords

theorem ext {s t : ByteArray} (h : s.data.toList = t.data.toList) : s = t := by
  cases s; cases t
  simp only at h
  congr
  exact Array.ext' h
theorem ext_iff {s t : ByteArray} : s = t ↔ s.data.toList = t.data.toList := ⟨fun h => by rw [h], ext⟩
theorem size_L (s : ByteArray) : s.size = s.data.toList.length := by simp
theorem toList_L (s : ByteArray) : s.toList = s.data.toList := ByteArray.toList_eq s
theorem toList_iff {s t : ByteArray} : s.toList = t.toList ↔ s = t := by rw [toList_L, toList_L, ext_iff]
theorem app_L (s t : ByteArray) : (s ++ t).data.toList = s.data.toList ++ t.data.toList := by simp
theorem extract_L (s : ByteArray) (a b : Nat) : (s.extract a b).data.toList = (s.data.toList.take b).drop a := by
  simp [List.drop_take]
theorem pre_L (s : ByteArray) (b : Nat) : (s.extract 0 b).data.toList = s.data.toList.take b := by rw [extract_L]; simp
theorem post_L (s : ByteArray) (a : Nat) : (s.extract a s.size).data.toList = s.data.toList.drop a := by
  rw [extract_L, List.take_of_length_le (by simp)]
theorem nums_L (xs : List Int) : (strOfNums xs).data.toList = xs.map fun n => UInt8.ofNat n.toNat := strOfNums_data xs
theorem nums_size (xs : List Int) : (strOfNums xs).size = xs.length := strOfNums_size xs
def ofL (l : List UInt8) : ByteArray := ⟨l.toArray⟩
@[simp] theorem ofL_L (l : List UInt8) : (ofL l).data.toList = l := rfl
@[simp] theorem ofL_size (l : List UInt8) : (ofL l).size = l.length := by simp [size_L]
theorem ofL_of (s : ByteArray) : ofL s.data.toList = s := ext rfl
theorem lit_L (l : List UInt8) : (⟨l.toArray⟩ : ByteArray).data.toList = l := rfl
theorem empty_iff (s : ByteArray) : s = ⟨#[]⟩ ↔ s.data.toList = [] := by rw [ext_iff]
theorem bt_L {s : ByteArray} {i : Nat} (h : i < s.size) : bt s (i : Int) = ((s.data.toList.getD i 0).toNat : Int) := by
  unfold bt
  rw [dif_pos (by simpa using h)]
  simp [List.getD, h]
  rfl
theorem bt_range (s : ByteArray) (i : Int) : 0 ≤ bt s i ∧ bt s i < 256 := by
  unfold bt
  split
  · rename_i h
    have := (s[i.toNat]'h).toNat_lt
    omega
  · omega
theorem wrap64_id {x : Int} (h0 : -9223372036854775808 ≤ x) (h1 : x < 9223372036854775808) : Go.RowKit.wrap64 x = x := by
  unfold Go.RowKit.wrap64
  omega
theorem wf_u32 {x : Int} (h : (Lit.int .u32 x).wf = true) : 0 ≤ x ∧ x < 4294967296 := by
  have e1 : IntKind.u32.min = 0 := rfl
  have e2 : IntKind.u32.max = 4294967295 := rfl
  simp [Lit.wf, e1, e2] at h
  omega
theorem wf_i64 {x : Int} (h : (Lit.int .i64 x).wf = true) : -9223372036854775808 ≤ x ∧ x ≤ 9223372036854775807 := by
  have e1 : IntKind.i64.min = -9223372036854775808 := rfl
  have e2 : IntKind.i64.max = 9223372036854775807 := rfl
  simp [Lit.wf, e1, e2] at h
  omega
theorem u8_nat (b : UInt8) : UInt8.ofNat ((b.toNat : Int)).toNat = b := by
  apply UInt8.toNat_inj.1
  have := b.toNat_lt
  simp
theorem map_u8 (l : List UInt8) : (l.map fun b => (b.toNat : Int)).map (fun n => UInt8.ofNat n.toNat) = l := by
  rw [List.map_map]
  conv => rhs; rw [← List.map_id l]
  apply List.map_congr_left
  intro b _
  exact u8_nat b
end Go.Proofs.Ytbeegnajghkhoaa.Str
end
/-! OctF -/
section
/- The printed functions of numbers and texts as bytes are the plain words on lists. -/
namespace Go.Proofs.Ytbeegnajghkhoaa.OctF
open Go Go.RowKit Go.Proofs.Ytbeegnajghkhoaa.Px Go.Proofs.YtbeegnajghkhoaaW.PrintWords Go.Proofs.Ytbeegnajghkhoaa.Str

/-- A number's higher groups, and its groups. -/
def hi (n : Nat) : List UInt8 := if n = 0 then [] else hi (n / 128) ++ [UInt8.ofNat (n % 128 + 128)]
termination_by n
decreasing_by omega
def grp (n : Nat) : List UInt8 := hi (n / 128) ++ [UInt8.ofNat (n % 128)]
theorem hi_zero : hi 0 = [] := by rw [hi]; rfl
theorem hi_pos {n : Nat} (h : n ≠ 0) : hi n = hi (n / 128) ++ [UInt8.ofNat (n % 128 + 128)] := by
  rw [hi, if_neg h]
theorem toNat_ofNat {n : Nat} (h : n < 256) : (UInt8.ofNat n).toNat = n := by rw [UInt8.toNat_ofNat']; omega
theorem go_hi (f : Nat) : ∀ (n : Nat) (acc : List Int), n < 128 ^ f → (Oct.go f (n : Int) acc).map (fun n => UInt8.ofNat n.toNat) = hi n ++ acc.map (fun n => UInt8.ofNat n.toNat) := by
  induction f with
  | zero =>
    intro n acc h
    obtain rfl : n = 0 := by simpa using h
    rw [hi_zero]
    rfl
  | succ f ih =>
    intro n acc h
    by_cases h0 : n = 0
    · subst h0
      rw [show ((0 : Nat) : Int) = 0 from rfl, Oct.go_zero, hi_zero]
      rfl
    · rw [Oct.go_pos _ _ _ (by omega), show (n : Int) / 128 = ((n / 128 : Nat) : Int) by omega, ih (n / 128) _ (by rw [Nat.pow_succ] at h; omega), hi_pos h0, List.map_cons, List.append_assoc]
      congr 1
      rw [Oct.gB_eq]
      show _ = UInt8.ofNat (n % 128 + 128) :: _
      congr 2
theorem groups_ok (n : Nat) (h : n < 9223372036854775808) : octet_Groups.f (n : Int) = some (ofL (grp n), 0) := by
  unfold octet_Groups.f
  rw [if_neg (by omega), if_pos (by omega)]
  congr 2
  apply ext
  rw [nums_L, ofL_L]
  unfold Oct.groupsI
  rw [show (n : Int) / 128 = ((n / 128 : Nat) : Int) by omega, go_hi 8 (n / 128) _ (by omega)]
  unfold grp
  congr 1
theorem groups_no (n : Int) (h : n < 0) : octet_Groups.f n = some (⟨#[]⟩, 1) := by
  unfold octet_Groups.f
  rw [if_pos h]
theorem hi_length (d : Nat) : ∀ n, n < 128 ^ d → (hi n).length ≤ d := by
  induction d with
  | zero => intro n h; obtain rfl : n = 0 := by simpa using h
            rw [hi_zero]; simp
  | succ d ih =>
    intro n h
    by_cases h0 : n = 0
    · subst h0; rw [hi_zero]; simp
    · rw [hi_pos h0, List.length_append]
      have := ih (n / 128) (by rw [Nat.pow_succ] at h; omega)
      simp
      omega
theorem grp_length (n : Nat) (h : n < 9223372036854775808) : 1 ≤ (grp n).length ∧ (grp n).length ≤ 9 := by
  unfold grp
  have := hi_length 8 (n / 128) (by omega)
  simp
  omega

/-- A number's last w bytes, the highest first. -/
def be : Nat → Nat → List UInt8
  | 0, _ => []
  | w + 1, n => be w (n / 256) ++ [UInt8.ofNat n]
theorem be_length (w n : Nat) : (be w n).length = w := by
  induction w generalizing n with
  | zero => rfl
  | succ w ih => simp [be, ih]
theorem be_add (k w n : Nat) : be (k + w) n = be k (n / 256 ^ w) ++ be w n := by
  induction w generalizing n with
  | zero => simp [be]
  | succ w ih =>
    rw [← Nat.add_assoc]
    show be (k + w) (n / 256) ++ _ = _ ++ (be w (n / 256) ++ _)
    rw [ih, List.append_assoc, Nat.div_div_eq_div_mul, Nat.pow_succ, Nat.mul_comm 256]
theorem be_drop (k w n : Nat) : (be (k + w) n).drop k = be w n := by
  rw [be_add, List.drop_left' (be_length _ _)]
theorem wgo_be (f : Nat) : ∀ (n : Nat) (acc : List Int), (Oct.wgo f (n : Int) acc).map (fun n => UInt8.ofNat n.toNat) = be f n ++ acc.map (fun n => UInt8.ofNat n.toNat) := by
  induction f with
  | zero => intro n acc; rfl
  | succ f ih =>
    intro n acc
    show (Oct.wgo f ((n : Int) / 256) ((n : Int) % 256 :: acc)).map _ = _
    rw [show (n : Int) / 256 = ((n / 256 : Nat) : Int) by omega, ih, List.map_cons]
    show _ = (be f (n / 256) ++ [UInt8.ofNat n]) ++ _
    rw [List.append_assoc]
    congr 1
    show _ = UInt8.ofNat n :: _
    congr 1
    apply UInt8.toNat_inj.1
    rw [UInt8.toNat_ofNat', UInt8.toNat_ofNat']
    omega
theorem wide_ok (n w : Nat) (h0 : 1 ≤ w) (h1 : w ≤ 8) (hn : n < 9223372036854775808) : octet_Wide.f (n : Int) (w : Int) = some (if n < 256 ^ w then (ofL (be w n), 0) else (⟨#[]⟩, 1)) := by
  unfold octet_Wide.f
  rw [if_neg (by omega), if_neg (by omega), if_neg (by omega), if_pos (by omega)]
  have hr : strOfNums ((Oct.wgo 8 (n : Int) []).drop (8 - (w : Int).toNat)) = ofL (be w n) := by
    apply ext
    rw [nums_L, ofL_L, List.map_drop, wgo_be, Int.toNat_natCast]
    simp only [List.map_nil, List.append_nil]
    have := be_drop (8 - w) w n
    rw [show 8 - w + w = 8 by omega] at this
    exact this
  rw [hr]
  have e8 : (8 * (w : Int)).toNat = 8 * w := by omega
  have ep : (2 : Int) ^ (8 * w) = ((256 ^ w : Nat) : Int) := by
    rw [show (256 : Nat) = 2 ^ 8 by rfl, ← Nat.pow_mul]
    simp
  have hd : (0 < (n : Int) / 2 ^ (8 * (w : Int)).toNat) ↔ 256 ^ w ≤ n := by
    rw [e8, ep]
    have hp : 0 < 256 ^ w := Nat.pow_pos (by decide)
    rw [show (n : Int) / ((256 ^ w : Nat) : Int) = ((n / 256 ^ w : Nat) : Int) by simp]
    have := Nat.div_pos_iff (a := n) (b := 256 ^ w)
    omega
  by_cases hb : n < 256 ^ w
  · rw [if_neg (fun z => by have := hd.1 z.2; omega), if_pos hb]
  · have : w ≠ 8 := by
      rintro rfl
      have : (256 : Nat) ^ 8 = 18446744073709551616 := by decide
      omega
    rw [if_pos ⟨by omega, hd.2 (by omega)⟩, if_neg hb]
theorem text_ok (s : ByteArray) (h : s.size ≤ 1073741824) : octet_Text.f s = some (ofL (grp s.size ++ s.data.toList)) := by
  unfold octet_Text.f
  rw [groups_ok s.size (by omega)]
  simp only [Option.bind_some]
  have := grp_length s.size (by omega)
  rw [ofL_size, if_pos (by omega)]
  congr 1

/-! ### Reading groups -/
/-- The number whose groups stand at the beginning; how many bytes these are; why not. -/
def pg (most : Int) : Nat → Nat → List UInt8 → Nat → Int × Int × Int
  | 0, _, _, _ => (0, 0, 3)
  | _ + 1, _, [], _ => (0, 0, 10)
  | f + 1, n, b :: r, i => if i = 0 ∧ b.toNat = 128 then (0, 0, 3) else if ((n * 128 + b.toNat % 128 : Nat) : Int) > most then (0, 0, 2) else if b.toNat < 128 then (((n * 128 + b.toNat % 128 : Nat) : Int), ((i + 1 : Nat) : Int), 0) else pg most f (n * 128 + b.toNat % 128) r (i + 1)
theorem andNot_u8 : ∀ b : Fin 256, Go.bits .andNot .u8 (b.val : Int) 128 = ((b.val % 128 : Nat) : Int) := by decide +kernel
theorem join7 (n b : Nat) (hn : n < 72057594037927936) (hb : b < 256) : Go.bits .or .i64 (wrap64 ((n : Int) * 128)) (wrap64 (Go.bits .andNot .u8 (b : Int) 128)) = ((n * 128 + b % 128 : Nat) : Int) := by
  have h := andNot_u8 ⟨b, hb⟩
  simp only at h
  rw [h, wrap64_id (by omega) (by omega), wrap64_id (by omega) (by omega)]
  rw [bits_join .i64 63 (by decide) (fun n h0 h1 => by rw [IntKind.wrap_i64]; omega) 7 ((n : Int) * 128) ((b % 128 : Nat) : Int) (by omega) (by omega) (by omega) (by omega) (by omega) (by omega)]
  omega
theorem groups_l0 (s : ByteArray) (most : Int) (d : Nat) : ∀ (k i n : Nat), i + d = 9 → i ≤ s.size → n < 128 ^ i → 2 * d + 1 ≤ k → octet_groups.l0 k s most (n : Int) (i : Int) = some (pg most d n (s.data.toList.drop i) i) := by
  induction d with
  | zero =>
    intro k i n hi hle hn hk
    obtain ⟨k, rfl⟩ : ∃ m, k = m + 1 := ⟨k - 1, by omega⟩
    simp only [octet_groups.l0]
    rw [if_neg (by omega)]
    rfl
  | succ d ih =>
    intro k i n hi hle hn hk
    obtain ⟨k, rfl⟩ : ∃ m, k = m + 2 := ⟨k - 2, by omega⟩
    have hn8 : n < 72057594037927936 := Nat.lt_of_lt_of_le hn (Nat.le_trans (Nat.pow_le_pow_right (by decide) (show i ≤ 8 by omega)) (by decide))
    simp only [octet_groups.l0]
    rw [if_pos (by omega)]
    by_cases he : i = s.size
    · rw [if_pos (by omega), List.drop_of_length_le (by simp; omega)]
      rfl
    · have hlt : i < s.size := by omega
      have hd : s.data.toList.drop i = s.data.toList[i]'(by simpa using hlt) :: s.data.toList.drop (i + 1) := List.drop_eq_getElem_cons (by simpa using hlt)
      have hb : bt s (i : Int) = ((s.data.toList[i]'(by simpa using hlt)).toNat : Int) := by
        rw [bt_L hlt]
        simp [List.getD, hlt]
      generalize s.data.toList[i]'(by simpa using hlt) = b at hd hb
      have hbl := b.toNat_lt
      rw [if_neg (by omega), if_pos (by omega), if_pos (by omega), hd, hb, join7 n b.toNat hn8 (by omega), wrap64_id (by omega) (by omega)]
      have hn' : n * 128 + b.toNat % 128 < 128 ^ (i + 1) := by rw [Nat.pow_succ]; omega
      have hj : ∀ q : Bool, q = decide (i = 0 ∧ b.toNat = 128) → octet_groups.j1 (k + 1) s most ((n * 128 + b.toNat % 128 : Nat) : Int) ((i : Int) + 1) (b.toNat : Int) q = some (pg most (d + 1) n (b :: s.data.toList.drop (i + 1)) i) := by
        intro q hq
        subst hq
        simp only [octet_groups.j1, pg, decide_eq_true_eq]
        by_cases c1 : i = 0 ∧ b.toNat = 128
        · rw [if_pos c1, if_pos c1]
        · rw [if_neg c1, if_neg c1]
          by_cases c2 : ((n * 128 + b.toNat % 128 : Nat) : Int) > most
          · rw [if_pos c2, if_pos c2]
          · rw [if_neg c2, if_neg c2]
            by_cases c3 : b.toNat < 128
            · rw [if_pos (by omega), if_pos c3]
              rfl
            · rw [if_neg (by omega), if_neg c3]
              exact ih k (i + 1) _ (by omega) (by omega) hn' (by omega)
      by_cases h0 : i = 0
      · rw [if_pos (by omega)]
        refine hj _ ?_
        by_cases h128 : b.toNat = 128
        · rw [decide_eq_true ⟨h0, h128⟩, h128]
          decide
        · rw [decide_eq_false (fun z => h128 z.2), beq_eq_false_iff_ne]
          omega
      · rw [if_neg (by omega)]
        exact hj _ (decide_eq_false (fun z => h0 z.1)).symm
def rdG (most : Int) (l : List UInt8) : Int × Int × Int := pg most 9 0 l 0
theorem groups_read (s : ByteArray) (most : Int) (k : Nat) (hk : 19 ≤ k) : octet_groups.f k s most = some (rdG most s.data.toList) := by
  unfold octet_groups.f
  have := groups_l0 s most 9 k 0 0 rfl (Nat.zero_le _) (by decide) (by omega)
  simpa [rdG] using this
/-- What is told of it: within the bytes; nothing beside an error. -/
theorem pg_long (most : Int) (f : Nat) : ∀ (n : Nat) (l : List UInt8) (i : Nat), 0 ≤ (pg most f n l i).2.1 ∧ (pg most f n l i).2.1 ≤ ((i + l.length : Nat) : Int) ∧ ((pg most f n l i).2.2 ≠ 0 → (pg most f n l i).1 = 0 ∧ (pg most f n l i).2.1 = 0) ∧ 0 ≤ (pg most f n l i).1 ∧ 0 ≤ (pg most f n l i).2.2 := by
  induction f with
  | zero => intro n l i; simp [pg]; omega
  | succ f ih =>
    intro n l i
    cases l with
    | nil => simp [pg]
    | cons b r =>
      simp only [pg]
      split
      · simp; omega
      · split
        · simp; omega
        · split
          · simp only [List.length_cons]
            refine ⟨by omega, by omega, fun h => absurd rfl h, by omega, by omega⟩
          · have := ih (n * 128 + b.toNat % 128) r (i + 1)
            simp only [List.length_cons]
            refine ⟨this.1, by omega, this.2.2.1, this.2.2.2⟩
theorem rdG_long (most : Int) (l : List UInt8) : 0 ≤ (rdG most l).2.1 ∧ (rdG most l).2.1 ≤ (l.length : Int) ∧ ((rdG most l).2.2 ≠ 0 → (rdG most l).1 = 0 ∧ (rdG most l).2.1 = 0) ∧ 0 ≤ (rdG most l).1 ∧ 0 ≤ (rdG most l).2.2 := by
  have := pg_long most 9 0 l 0
  simpa [rdG] using this
theorem rdG_most (most : Int) (f : Nat) : ∀ (n : Nat) (l : List UInt8) (i : Nat), 0 ≤ most → n < 128 ^ (9 - f) → f ≤ 9 → (pg most f n l i).1 ≤ most ∧ (pg most f n l i).1 < 9223372036854775808 := by
  induction f with
  | zero => intro n l i h _ _; simp [pg]; omega
  | succ f ih =>
    intro n l i h hn hf
    have hn' : n * 128 + 127 < 9223372036854775808 := by
      have : 128 ^ (9 - (f + 1)) * 128 ≤ 9223372036854775808 := by
        rw [← Nat.pow_succ]
        exact Nat.le_trans (Nat.pow_le_pow_right (by decide) (show 9 - (f + 1) + 1 ≤ 9 by omega)) (by decide)
      omega
    cases l with
    | nil => simp [pg]; omega
    | cons b r =>
      simp only [pg]
      split
      · simp; omega
      · split
        · simp; omega
        · split
          · simp only; omega
          · refine ih _ r _ h ?_ (by omega)
            rw [show 9 - f = 9 - (f + 1) + 1 by omega, Nat.pow_succ]
            omega

/-- The reader's calls. -/
theorem rGroups (s : ByteArray) (c most : Int) (k : Nat) (hk : 19 ≤ k) :
    octet_Reader_Groups.f k s c most = some (if c = 0 then ((rdG most s.data.toList).1, ofL (s.data.toList.drop (rdG most s.data.toList).2.1.toNat), (rdG most s.data.toList).2.2) else (0, s, c)) := by
  unfold octet_Reader_Groups.f
  by_cases hc : c = 0
  · rw [if_pos hc, if_pos hc, groups_read s most k hk]
    simp only [Option.bind_some]
    unfold octet_Reader_Refuse.f
    rw [if_pos hc]
    simp only [Option.bind_some]
    have h := rdG_long most s.data.toList
    rw [if_pos h.1, if_pos (by have := h.2.1; simpa using this)]
    congr 3
    apply ext
    rw [post_L, ofL_L]
  · rw [if_neg hc, if_neg hc]
theorem rBytes (s : ByteArray) (c n : Int) : octet_Reader_Bytes.f s c n = some (if c = 0 then (if n < 0 then (⟨#[]⟩, s, 1) else if n > (s.size : Int) then (⟨#[]⟩, s, 10) else (ofL (s.data.toList.take n.toNat), ofL (s.data.toList.drop n.toNat), c)) else (⟨#[]⟩, s, c)) := by
  unfold octet_Reader_Bytes.f octet_Reader_Refuse.f
  by_cases hc : c = 0
  · simp only [if_pos hc, Option.bind_some]
    by_cases h1 : n < 0
    · rw [if_pos h1, if_pos h1]
    · rw [if_neg h1, if_neg h1]
      by_cases h2 : n > (s.size : Int)
      · rw [if_pos h2, if_pos h2]
      · rw [if_neg h2, if_neg h2, if_pos (by omega), if_pos (by omega)]
        congr 2
        · apply ext
          rw [pre_L, ofL_L]
        · congr 1
          apply ext
          rw [post_L, ofL_L]
  · rw [if_neg hc, if_neg hc]
end Go.Proofs.Ytbeegnajghkhoaa.OctF
end
/-! OctR -/
section
/- The document's numbers and texts as bytes are the plain words on lists, too. -/
namespace Go.Proofs.Ytbeegnajghkhoaa.OctF
open Go Go.RowKit Go.Proofs.Ytbeegnajghkhoaa.Px Go.Proofs.YtbeegnajghkhoaaW.PrintWords Go.Proofs.Ytbeegnajghkhoaa.Str

theorem ref_Grouped_l0 (n : Nat) : ∀ (s : ByteArray), n < 9223372036854775808 → s.size + (hi (n / 128)).length ≤ 1000 → Ev (fun k => gongref01_Grouped.l0 k (n : Int) s) (ofL (hi (n / 128) ++ s.data.toList)) := by
  induction n using Nat.strongRecOn with
  | _ n ih =>
    intro s hn hs
    by_cases h : n < 128
    · refine Ev.step (f := fun _ => some s) (fun k => ?_) ?_
      · simp only [gongref01_Grouped.l0]
        rw [if_neg (by omega)]
      · rw [show n / 128 = 0 by omega, hi_zero, List.nil_append, ofL_of]
        exact Ev.now _
    · have h1 : n / 128 ≠ 0 := by omega
      have e1 : wrap64 (Int.tdiv (n : Int) 128) = ((n / 128 : Nat) : Int) := by
        rw [Int.tdiv_eq_ediv_of_nonneg (by omega), wrap64_id (by omega) (by omega)]
        omega
      have e2 : strOfNums [wrap64 (Int.tmod ((n / 128 : Nat) : Int) 128 + 128) % 256] = ofL [UInt8.ofNat (n / 128 % 128 + 128)] := by
        apply ext
        rw [nums_L, ofL_L, Int.tmod_eq_emod_of_nonneg (by omega), wrap64_id (by omega) (by omega)]
        simp only [List.map_cons, List.map_nil, List.cons.injEq, and_true]
        congr 1
        omega
      rw [hi_pos h1] at hs ⊢
      rw [List.length_append] at hs
      simp only [List.length_cons, List.length_nil] at hs
      have hsz : (ofL [UInt8.ofNat (n / 128 % 128 + 128)]).size + s.size ≤ 9223372036854775807 := by simp; omega
      have hsum : hi (n / 128 / 128) ++ [UInt8.ofNat (n / 128 % 128 + 128)] ++ s.data.toList = hi (n / 128 / 128) ++ (ofL [UInt8.ofNat (n / 128 % 128 + 128)] ++ s).data.toList := by simp
      rw [hsum]
      have hsz2 : (ofL [UInt8.ofNat (n / 128 % 128 + 128)] ++ s).size = 1 + s.size := by rw [size_L, app_L]; simp; omega
      refine Ev.step (f := fun k => gongref01_Grouped.l0 k ((n / 128 : Nat) : Int) (ofL [UInt8.ofNat (n / 128 % 128 + 128)] ++ s)) (fun k => ?_) (ih (n / 128) (by omega) _ (by omega) (by omega))
      simp only [gongref01_Grouped.l0]
      rw [if_pos (by omega), e1]
      simp only [Option.bind_some]
      rw [e2, if_pos hsz]
theorem ref_Grouped_ev (n : Nat) (hn : n < 9223372036854775808) : Ev (fun k => gongref01_Grouped.f k (n : Int)) (ofL (grp n)) := by
  have e : strOfNums [Int.tmod (n : Int) 128 % 256] = ofL [UInt8.ofNat (n % 128)] := by
    apply ext
    rw [nums_L, ofL_L, Int.tmod_eq_emod_of_nonneg (by omega)]
    simp only [List.map_cons, List.map_nil, List.cons.injEq, and_true]
    congr 1
    omega
  unfold gongref01_Grouped.f
  rw [e]
  have hl := hi_length 8 (n / 128) (by omega)
  exact ref_Grouped_l0 n (ofL [UInt8.ofNat (n % 128)]) hn (by simp; omega)
theorem ref_Padded_l0 (w : Int) (d : Nat) : ∀ (n : Nat) (s : ByteArray) (i : Int), w = i + (d : Int) → w ≤ 1000 → 0 ≤ i → n < 9223372036854775808 → s.size ≤ 2000 - d →
    Ev (fun k => gongref01_Padded.l0 k (n : Int) w s i) (ofL (be d n ++ s.data.toList)) := by
  induction d with
  | zero =>
    intro n s i hi hw h0 hn hs
    refine Ev.step (f := fun _ => some s) (fun k => ?_) ?_
    · simp only [gongref01_Padded.l0]
      rw [if_neg (by omega)]
    · simp only [be, List.nil_append]
      rw [ofL_of]
      exact Ev.now _
  | succ d ih =>
    intro n s i hi hw h0 hn hs
    have e1 : Int.tmod (n : Int) 256 = (n % 256 : Nat) := by rw [Int.tmod_eq_emod_of_nonneg (by omega)]; omega
    have e2 : Int.tdiv (n : Int) 256 = (n / 256 : Nat) := by rw [Int.tdiv_eq_ediv_of_nonneg (by omega)]; omega
    have e3 : (strOfNums [Int.tmod (n : Int) 256 % 256]) = ofL [UInt8.ofNat n] := by
      apply ext
      rw [nums_L, ofL_L, e1]
      simp only [List.map_cons, List.map_nil, List.cons.injEq, and_true]
      apply UInt8.toNat_inj.1
      rw [UInt8.toNat_ofNat', UInt8.toNat_ofNat']
      omega
    have hsz : (ofL [UInt8.ofNat n]).size + s.size ≤ 9223372036854775807 := by simp; omega
    have hsum : be (d + 1) n ++ s.data.toList = be d (n / 256) ++ (ofL [UInt8.ofNat n] ++ s).data.toList := by simp [be]
    rw [hsum]
    refine Ev.step (f := fun k => gongref01_Padded.l0 k ((n / 256 : Nat) : Int) w (ofL [UInt8.ofNat n] ++ s) (i + 1)) (fun k => ?_) (ih (n / 256) _ (i + 1) (by omega) hw (by omega) (by omega) ?_)
    · simp only [gongref01_Padded.l0]
      rw [if_pos (by omega)]
      simp only [Option.bind_some]
      rw [e3, if_pos hsz, e2, wrap64_id (by omega) (by omega), wrap64_id (by omega) (by omega)]
    · have : (ofL [UInt8.ofNat n] ++ s).size = 1 + s.size := by rw [size_L, app_L]; simp; omega
      omega
theorem ref_Padded_ev (n : Nat) (w : Nat) (hn : n < 9223372036854775808) (hw : w ≤ 1000) : Ev (fun k => gongref01_Padded.f k (n : Int) (w : Int)) (ofL (be w n)) := by
  have := ref_Padded_l0 (w : Int) w n ⟨#[]⟩ 0 (by omega) (by omega) (by omega) hn (by simp [size_L])
  simp only [List.append_nil] at this
  exact this

/-- The number of bytes, the highest first. -/
def val (l : List UInt8) : Nat := l.foldl (fun n b => n * 256 + b.toNat) 0
theorem val_snoc (l : List UInt8) (b : UInt8) : val (l ++ [b]) = val l * 256 + b.toNat := by simp [val, List.foldl_append]
theorem snoc_ind {α : Type} {Q : List α → Prop} (h0 : Q []) (h1 : ∀ l b, Q l → Q (l ++ [b])) (l : List α) : Q l := by
  rw [← List.reverse_reverse l]
  induction l.reverse with
  | nil => exact h0
  | cons b r ih => rw [List.reverse_cons]; exact h1 _ _ ih
theorem val_lt (l : List UInt8) : val l < 256 ^ l.length := by
  refine snoc_ind (Q := fun l => val l < 256 ^ l.length) (by decide) (fun l b ih => ?_) l
  rw [val_snoc, List.length_append, List.length_singleton, Nat.pow_succ]
  have := b.toNat_lt
  omega
theorem val_be (w n : Nat) : val (be w n) = n % 256 ^ w := by
  induction w generalizing n with
  | zero => simp [be, val, Nat.mod_one]
  | succ w ih =>
    have e : (UInt8.ofNat n).toNat = n % 256 := UInt8.toNat_ofNat'
    rw [be, val_snoc, ih, e, Nat.pow_succ, Nat.mul_comm (256 ^ w) 256, Nat.mod_mul]
    omega
theorem val_cons (b : UInt8) (l : List UInt8) : val (b :: l) = b.toNat * 256 ^ l.length + val l := by
  refine snoc_ind (Q := fun l => val (b :: l) = b.toNat * 256 ^ l.length + val l) (by simp [val]) (fun l c ih => ?_) l
  rw [← List.cons_append, val_snoc, ih, val_snoc, List.length_append, List.length_singleton, Nat.pow_succ, Nat.add_mul, Nat.mul_assoc]
  omega
/-- Too great a number: eight bytes, the first of them from 128 on. -/
theorem val_big (l : List UInt8) (h : l.length ≤ 8) : val l < 9223372036854775808 ↔ ¬ (l.length = 8 ∧ 128 ≤ (l.getD 0 0).toNat) := by
  by_cases h8 : l.length = 8
  · match l, h8 with
    | b :: r, h8 =>
      have hr : r.length = 7 := by simpa using h8
      have hv := val_lt r
      have h7 : (256 : Nat) ^ 7 = 72057594037927936 := by decide
      rw [hr, h7] at hv
      rw [val_cons, hr, h7, h8]
      have := b.toNat_lt
      simp only [List.getD_cons_zero, true_and]
      omega
  · have hv := val_lt l
    have : (256 : Nat) ^ l.length ≤ 256 ^ 7 := Nat.pow_le_pow_right (by decide) (by omega)
    have h7 : (256 : Nat) ^ 7 = 72057594037927936 := by decide
    constructor
    · intro _ z; exact h8 z.1
    · intro _; omega
theorem val_take (l : List UInt8) (i : Nat) (h : i < l.length) : val (l.take (i + 1)) = val (l.take i) * 256 + (l.getD i 0).toNat := by
  rw [List.take_succ_eq_append_getElem h, val_snoc]
  simp [List.getD, h]
theorem val_take_le (l : List UInt8) (i : Nat) : val (l.take i) ≤ val l := by
  have key : ∀ d i, i + d = l.length → val (l.take i) ≤ val l := by
    intro d
    induction d with
    | zero => intro i hi; rw [List.take_of_length_le (by omega)]; exact Nat.le_refl _
    | succ d ih =>
      intro i hi
      have := ih (i + 1) (by omega)
      rw [val_take l i (by omega)] at this
      omega
  by_cases h : i ≤ l.length
  · exact key (l.length - i) i (by omega)
  · rw [List.take_of_length_le (by omega)]; exact Nat.le_refl _
theorem ref_Number_l0 (s : ByteArray) (hv : val s.data.toList < 9223372036854775808) (hs : s.size ≤ 1000) (d : Nat) : ∀ i : Nat, i + d = s.size → Ev (fun k => gongref01_Number.l0 k s (val (s.data.toList.take i) : Int) (i : Int)) ((val s.data.toList : Int), true) := by
  induction d with
  | zero =>
    intro i hi
    refine Ev.step (f := fun _ => some ((val s.data.toList : Int), true)) (fun k => ?_) (Ev.now _)
    simp only [gongref01_Number.l0]
    rw [if_neg (by omega), List.take_of_length_le (by simp; omega)]
  | succ d ih =>
    intro i hi
    have hlt : i < s.size := by omega
    have ht := val_take s.data.toList i (by simpa using hlt)
    have hle := val_take_le s.data.toList (i + 1)
    have hb := (s.data.toList.getD i 0).toNat_lt
    refine Ev.step (f := fun k => gongref01_Number.l0 k s (val (s.data.toList.take (i + 1)) : Int) ((i + 1 : Nat) : Int)) (fun k => ?_) (ih (i + 1) (by omega))
    simp only [gongref01_Number.l0]
    rw [if_pos (by omega), if_pos (by omega), bt_L hlt, wrap64_id (x := ((s.data.toList.getD i 0).toNat : Int)) (by omega) (by omega), wrap64_id (x := (val (s.data.toList.take i) : Int) * 256) (by omega) (by omega), wrap64_id (by omega) (by omega), wrap64_id (by omega) (by omega), ht]
    rfl
theorem ref_Number_ev (s : ByteArray) (hs : s.size ≤ 8) : Ev (fun k => gongref01_Number.f k s) (if val s.data.toList < 9223372036854775808 then ((val s.data.toList : Int), true) else (0, false)) := by
  have hbig := val_big s.data.toList (by simpa using hs)
  have hj : Ev (fun k => gongref01_Number.j0 k s (decide ¬ (val s.data.toList < 9223372036854775808))) (if val s.data.toList < 9223372036854775808 then ((val s.data.toList : Int), true) else (0, false)) := by
    by_cases h : val s.data.toList < 9223372036854775808
    · rw [if_pos h, decide_eq_false (fun z => z h)]
      have := ref_Number_l0 s h (by omega) s.size 0 (by omega)
      refine Ev.step (f := fun k => gongref01_Number.l0 k s 0 0) (fun k => ?_) (by simpa [val] using this)
      simp only [gongref01_Number.j0]
      rw [if_neg (by decide)]
    · rw [if_neg h, decide_eq_true h]
      refine Ev.step (f := fun _ => some (0, false)) (fun k => ?_) (Ev.now _)
      simp only [gongref01_Number.j0]
      rw [if_pos trivial]
  refine Ev.congr (fun k => ?_) hj
  unfold gongref01_Number.f
  rw [← size_L] at hbig
  by_cases h8 : s.size = 8
  · rw [if_pos (by omega), if_pos (by omega), show (0 : Int) = ((0 : Nat) : Int) from rfl, bt_L (by omega)]
    congr 1
    apply decide_eq_decide.2
    rw [hbig]
    omega
  · rw [if_neg (by omega)]
    congr 1
    symm
    rw [decide_eq_false_iff_not]
    intro z
    exact z (hbig.2 (fun y => h8 y.1))
theorem be_first (w n : Nat) (h : 1 ≤ w) : ∃ r, be w n = UInt8.ofNat (n / 256 ^ (w - 1)) :: r := by
  have := be_add 1 (w - 1) n
  rw [show 1 + (w - 1) = w by omega] at this
  exact ⟨be (w - 1) n, by rw [this]; rfl⟩
end Go.Proofs.Ytbeegnajghkhoaa.OctF
end
/-! PureOctetWrites -/
section
/- The statement OctetWrites over whole numbers and lists alone: groups, wide numbers and long texts are the document's. -/
namespace Go.Proofs.Ytbeegnajghkhoaa.OctF
open Go Go.RowKit Go.Proofs.Ytbeegnajghkhoaa.Px Go.Proofs.YtbeegnajghkhoaaW.PrintWords Go.Proofs.Ytbeegnajghkhoaa.Str

theorem works_f : gonglaw01_works.f = some true := by
  unfold gonglaw01_works.f
  rw [show (300 : Int) = ((300 : Nat) : Int) from rfl, show (3 : Int) = ((3 : Nat) : Int) from rfl, groups_ok 300 (by decide), wide_ok 300 3 (by decide) (by decide) (by decide)]
  simp only [Option.bind_some, toList_L, ofL_L]
  have e1 : grp 300 = [130, 44] := by
    unfold grp
    rw [hi_pos (by decide), show 300 / 128 / 128 = 0 by decide, hi_zero]
    decide
  have e2 : be 3 300 = [0, 1, 44] := by decide
  rw [if_pos (show 300 < 256 ^ 3 by decide)]
  simp only [ofL_L, e1, e2]
  rfl
theorem ref_Groups_ev (x : Int) (h : x ≤ 9223372036854775807) : ∃ r, octet_Groups.f x = some r ∧ Ev (fun k => gongref01_Groups.f k x) r := by
  unfold gongref01_Groups.f
  by_cases h0 : x < 0
  · exact ⟨_, groups_no x h0, Ev.congr (fun k => by rw [if_pos h0]) (Ev.now _)⟩
  · obtain ⟨n, rfl⟩ : ∃ n : Nat, x = n := ⟨x.toNat, by omega⟩
    refine ⟨_, groups_ok n (by omega), Ev.congr (f := fun k => (gongref01_Grouped.f k (n : Int)).bind fun t => some (t, 0)) (fun k => by rw [if_neg h0]) ?_⟩
    exact Ev.bind (ref_Grouped_ev n (by omega)) (Ev.now _)
theorem ref_Wide_ev (x y : Int) (h : x ≤ 9223372036854775807) : ∃ r, octet_Wide.f x y = some r ∧ Ev (fun k => gongref01_Wide.f k x y) r := by
  have hno : Ev (fun k => gongref01_Wide.j0 k x y true) ((⟨#[]⟩ : ByteArray), (1 : Int)) := Ev.step (f := fun _ => some _) (fun k => by simp only [gongref01_Wide.j0]; rw [if_pos trivial]) (Ev.now _)
  unfold gongref01_Wide.f
  by_cases h1 : y < 1
  · refine ⟨(⟨#[]⟩, 1), ?_, Ev.congr (fun k => by rw [if_pos h1]) hno⟩
    unfold octet_Wide.f
    rw [if_pos h1]
  by_cases h2 : y > 8
  · refine ⟨(⟨#[]⟩, 1), ?_, Ev.congr (fun k => by rw [if_neg h1, if_pos h2]) hno⟩
    unfold octet_Wide.f
    rw [if_neg h1, if_pos (by omega)]
  by_cases h3 : x < 0
  · refine ⟨(⟨#[]⟩, 1), ?_, Ev.congr (fun k => by rw [if_neg h1, if_neg h2, decide_eq_true h3]) hno⟩
    unfold octet_Wide.f
    rw [if_neg h1, if_neg (by omega), if_pos h3]
  obtain ⟨n, rfl⟩ : ∃ n : Nat, x = n := ⟨x.toNat, by omega⟩
  obtain ⟨w, rfl⟩ : ∃ w : Nat, y = w := ⟨y.toNat, by omega⟩
  refine ⟨_, wide_ok n w (by omega) (by omega) (by omega), Ev.congr (f := fun k => gongref01_Wide.j0 k (n : Int) (w : Int) false) (fun k => by rw [if_neg h1, if_neg h2, decide_eq_false h3]) ?_⟩
  refine Ev.step (f := fun k => (gongref01_Padded.f k (n : Int) (w : Int)).bind fun t => (gongref01_Number.f k t).bind fun q => if q.1 = (n : Int) then some (t, 0) else some (⟨#[]⟩, 1)) (fun k => ?_) ?_
  · simp only [gongref01_Wide.j0]
    rw [if_neg (by decide)]
  · refine Ev.bind (ref_Padded_ev n w (by omega) (by omega)) ?_
    refine Ev.bind (ref_Number_ev (ofL (be w n)) (by rw [ofL_size, be_length]; omega)) ?_
    rw [ofL_L, val_be]
    have hm : n % 256 ^ w ≤ n := Nat.mod_le _ _
    have hlt : n % 256 ^ w < 9223372036854775808 := by omega
    simp only [if_pos hlt]
    refine Ev.congr (f := fun _ => some _) (fun k => ?_) (Ev.now _)
    by_cases hb : n < 256 ^ w
    · rw [if_pos hb, if_pos (by rw [Nat.mod_eq_of_lt hb])]
    · have : n % 256 ^ w < 256 ^ w := Nat.mod_lt _ (Nat.pow_pos (by decide))
      rw [if_neg hb, if_neg (by omega)]
theorem ref_Text_ev (s : ByteArray) (h : s.size ≤ 1073741824) : Ev (fun k => gongref01_Text.f k s) (ofL (grp s.size ++ s.data.toList)) := by
  unfold gongref01_Text.f
  refine Ev.bind (ref_Grouped_ev s.size (by omega)) ?_
  have := grp_length s.size (by omega)
  refine Ev.congr (f := fun _ => some _) (fun k => ?_) (Ev.now _)
  rw [ofL_size, if_pos (by omega)]
  congr 1
end Go.Proofs.Ytbeegnajghkhoaa.OctF
namespace Go.Proofs.Ytbeegnajghkhoaa.Pure
open Go Go.RowKit Go.Proofs.Ytbeegnajghkhoaa.Px Go.Proofs.YtbeegnajghkhoaaW.PrintWords Go.Proofs.Ytbeegnajghkhoaa.Str Go.Proofs.Ytbeegnajghkhoaa.OctF
theorem OctetWrites : gonglaw01_OctetWrites.Pure := by
  intro x y s hx _ hs
  have hx := wf_i64 hx
  apply Ev.rounds
  unfold gonglaw01_OctetWrites.f
  by_cases h7 : (s.size : Int) > 70000
  · refine Ev.congr (f := fun _ => some true) (fun k => ?_) (Ev.now _)
    rw [if_pos h7, works_f]
    rfl
  · simp only [if_neg h7]
    obtain ⟨r, hr, hr'⟩ := ref_Groups_ev x hx.2
    obtain ⟨q, hq, hq'⟩ := ref_Wide_ev x y hx.2
    rw [hr]
    simp only [Option.bind_some]
    refine Ev.bind hr' ?_
    rw [hq]
    simp only [Option.bind_some]
    refine Ev.bind hq' ?_
    rw [text_ok s (by omega)]
    simp only [if_true, Option.bind_some]
    refine Ev.bind (ref_Text_ev s (by omega)) ?_
    refine Ev.congr (f := fun _ => some true) (fun k => ?_) (Ev.now _)
    rw [works_f]
    simp
end Go.Proofs.Ytbeegnajghkhoaa.Pure
end
/-! OctB -/
section
/- Groups there and back. -/
namespace Go.Proofs.Ytbeegnajghkhoaa.OctF
open Go Go.Proofs.Ytbeegnajghkhoaa.Str

theorem pg_hi (most : Int) (q : Nat) : ∀ acc : List UInt8, (q : Int) ≤ most → q < 72057594037927936 → pg most 9 0 (hi q ++ acc) 0 = pg most (9 - (hi q).length) q acc (hi q).length := by
  induction q using Nat.strongRecOn with
  | _ q ih =>
    intro acc hm hq
    by_cases h0 : q = 0
    · subst h0
      rw [hi_zero]
      rfl
    · have hl : (hi (q / 128)).length ≤ 7 := hi_length 7 _ (by omega)
      rw [hi_pos h0, List.append_assoc, ih (q / 128) (by omega) _ (by omega) (by omega)]
      generalize hL : (hi (q / 128)).length = L at hl
      obtain ⟨f, hf⟩ : ∃ f, 9 - L = f + 1 := ⟨8 - L, by omega⟩
      have hb : (UInt8.ofNat (q % 128 + 128)).toNat = q % 128 + 128 := toNat_ofNat (by omega)
      have hz : ¬ (L = 0 ∧ q % 128 + 128 = 128) := by
        rintro ⟨z1, z2⟩
        have hq0 : q / 128 = 0 := by
          rcases Nat.eq_zero_or_pos (q / 128) with h | h
          · exact h
          · rw [hi_pos (by omega), List.length_append] at hL
            simp at hL
            omega
        omega
      rw [hf]
      simp only [List.cons_append, List.nil_append, pg, hb]
      rw [if_neg hz, show q / 128 * 128 + (q % 128 + 128) % 128 = q by omega, if_neg (by omega), if_neg (by omega), List.length_append, hL]
      simp only [List.length_cons, List.length_nil, Nat.zero_add]
      congr 1
      omega
/-- A number's groups are read back, with whatever stands behind them. -/
theorem rdG_grp (most : Int) (n : Nat) (r : List UInt8) (hm : (n : Int) ≤ most) (hn : n < 9223372036854775808) : rdG most (grp n ++ r) = ((n : Int), ((grp n).length : Int), 0) := by
  have hl : (hi (n / 128)).length ≤ 8 := hi_length 8 _ (by omega)
  unfold rdG grp
  rw [List.append_assoc, pg_hi most (n / 128) _ (by omega) (by omega)]
  generalize hL : (hi (n / 128)).length = L at hl ⊢
  have hb : (UInt8.ofNat (n % 128)).toNat = n % 128 := toNat_ofNat (by omega)
  obtain ⟨f, hf⟩ : ∃ f, 9 - L = f + 1 := ⟨8 - L, by omega⟩
  rw [hf]
  simp only [List.cons_append, List.nil_append, pg, hb, List.length_append, List.length_cons, List.length_nil]
  rw [if_neg (by omega), show n / 128 * 128 + n % 128 % 128 = n by omega, if_neg (by omega), if_pos (by omega), hL]
/-- What is read as groups is written as just the bytes that were read. -/
theorem pg_inv (most : Int) (f : Nat) : ∀ (n : Nat) (pre l : List UInt8) (i : Nat), i = pre.length → hi n = pre → (i = 0 ↔ n = 0) → (pg most f n l i).2.2 = 0 →
    ∃ m : Nat, (pg most f n l i).1 = (m : Int) ∧ ∃ j : Nat, (pg most f n l i).2.1 = (j : Int) ∧ i ≤ j ∧ j ≤ i + l.length ∧ grp m = pre ++ l.take (j - i) := by
  induction f with
  | zero => intro n pre l i _ _ _ h; simp [pg] at h
  | succ f ih =>
    intro n pre l i hi' hp hz h
    cases l with
    | nil => simp [pg] at h
    | cons b r =>
      simp only [pg] at h ⊢
      have hbl := b.toNat_lt
      split at h
      · simp at h
      · rename_i h1
        rw [if_neg h1]
        split at h
        · simp at h
        · rename_i h2
          rw [if_neg h2]
          split at h
          · rename_i h3
            rw [if_pos h3]
            refine ⟨_, rfl, i + 1, rfl, by omega, by simp, ?_⟩
            unfold grp
            rw [show (n * 128 + b.toNat % 128) / 128 = n by omega, hp, show i + 1 - i = 1 by omega]
            simp only [List.take_succ_cons, List.take_zero]
            congr 2
            apply UInt8.toNat_inj.1
            rw [toNat_ofNat (by omega)]
            omega
          · rename_i h3
            rw [if_neg h3]
            have hn0 : n * 128 + b.toNat % 128 ≠ 0 := by
              intro z
              have : n = 0 := by omega
              exact h1 ⟨hz.2 this, by omega⟩
            have hh : hi (n * 128 + b.toNat % 128) = pre ++ [b] := by
              rw [hi_pos hn0, show (n * 128 + b.toNat % 128) / 128 = n by omega, hp]
              congr 2
              apply UInt8.toNat_inj.1
              rw [toNat_ofNat (by omega)]
              omega
            obtain ⟨m, e1, j, e2, hj1, hj2, e3⟩ := ih (n * 128 + b.toNat % 128) (pre ++ [b]) r (i + 1) (by simp; omega) hh (by omega) h
            refine ⟨m, e1, j, e2, by omega, by simp; omega, ?_⟩
            rw [e3, List.append_assoc]
            congr 1
            rw [show j - i = (j - (i + 1)) + 1 by omega, List.take_succ_cons]
            rfl
theorem rdG_inv (most : Int) (l : List UInt8) (h : (rdG most l).2.2 = 0) : ∃ m j : Nat, (rdG most l).1 = (m : Int) ∧ (rdG most l).2.1 = (j : Int) ∧ j ≤ l.length ∧ grp m = l.take j := by
  obtain ⟨m, e1, j, e2, _, h2, e3⟩ := pg_inv most 9 0 [] l 0 rfl hi_zero (by simp) h
  exact ⟨m, j, e1, e2, by simpa using h2, by simpa using e3⟩
/-- Of two numbers' groups neither begins the other, but if they are the same. -/
theorem grp_prefix {n m : Nat} (hn : n < 9223372036854775808) (hm : m < 9223372036854775808) : (grp m).take (grp n).length = grp n ↔ n = m := by
  constructor
  · intro h
    have h1 := rdG_grp 9223372036854775807 m [] (by omega) hm
    have h2 := rdG_grp 9223372036854775807 n ((grp m).drop (grp n).length) (by omega) hn
    have e : grp n ++ (grp m).drop (grp n).length = grp m := by
      have := List.take_append_drop (grp n).length (grp m)
      rw [h] at this
      exact this
    rw [List.append_nil] at h1
    rw [e, h1] at h2
    have := congrArg Prod.fst h2
    simp at this
    omega
  · rintro rfl
    rw [List.take_of_length_le (Nat.le_refl _)]
end Go.Proofs.Ytbeegnajghkhoaa.OctF
end
/-! PureOctetOne -/
section
/- The statement OctetOne over whole numbers and lists alone: what is read as groups is written as it stood, and no number's groups begin another's. -/
namespace Go.Proofs.Ytbeegnajghkhoaa.OctF
open Go Go.RowKit Go.Proofs.Ytbeegnajghkhoaa.Px Go.Proofs.YtbeegnajghkhoaaW.PrintWords Go.Proofs.Ytbeegnajghkhoaa.Str
theorem and63 (x : Int) : Go.bits .and .i64 x 9223372036854775807 = x % 9223372036854775808 := by
  unfold Go.bits
  rw [IntKind.wrap_i64]
  have h : (BitVec.ofInt IntKind.i64.bits x &&& BitVec.ofInt IntKind.i64.bits 9223372036854775807).toNat = (x % 9223372036854775808).toNat := by
    rw [BitVec.toNat_and]
    show (BitVec.ofInt 64 x).toNat &&& (2 ^ 63 - 1) = (x % 9223372036854775808).toNat
    rw [Nat.and_two_pow_sub_one_eq_mod, BitVec.toNat_ofInt]
    omega
  show (((BitVec.ofInt IntKind.i64.bits x &&& BitVec.ofInt IntKind.i64.bits 9223372036854775807).toNat : Int) + 9223372036854775808) % 18446744073709551616 - 9223372036854775808 = _
  rw [h]
  omega
theorem and63_nat (x : Int) : ∃ n : Nat, Go.bits .and .i64 x 9223372036854775807 = (n : Int) ∧ n < 9223372036854775808 :=
  ⟨(x % 9223372036854775808).toNat, by rw [and63]; omega, by omega⟩
theorem rGroups_ev (s : ByteArray) (c most : Int) : Ev (fun k => octet_Reader_Groups.f k s c most) (if c = 0 then ((rdG most s.data.toList).1, ofL (s.data.toList.drop (rdG most s.data.toList).2.1.toNat), (rdG most s.data.toList).2.2) else (0, s, c)) :=
  ⟨19, fun k hk => rGroups s c most k hk⟩
/-- Neither begins the other. -/
theorem begins (x y : Int) : ((octet_Groups.f (Go.bits .and .i64 x 9223372036854775807)).bind fun b => (octet_Groups.f (Go.bits .and .i64 y 9223372036854775807)).bind fun c =>
    if (b.1.size : Int) ≤ (c.1.size : Int) then (if 0 ≤ (b.1.size : Int) then (if b.2 = 0 then (if c.2 = 0 then some (((c.1.extract 0 ((b.1.size : Int) : Int).toNat).toList == b.1.toList) == ((Go.bits .and .i64 x 9223372036854775807) == (Go.bits .and .i64 y 9223372036854775807))) else some false) else some false) else none)
    else (if b.2 = 0 then (if c.2 = 0 then some (false == ((Go.bits .and .i64 x 9223372036854775807) == (Go.bits .and .i64 y 9223372036854775807))) else some false) else some false)) = some true := by
  obtain ⟨n, hn, hn2⟩ := and63_nat x
  obtain ⟨m, hm, hm2⟩ := and63_nat y
  rw [hn, hm, groups_ok n hn2, groups_ok m hm2]
  simp only [Option.bind_some, ofL_size, if_true, Int.toNat_natCast, toList_L, pre_L, ofL_L]
  have hp := grp_prefix hn2 hm2
  by_cases hl : ((grp n).length : Int) ≤ ((grp m).length : Int)
  · rw [if_pos hl, if_pos (by omega)]
    congr 1
    by_cases e : n = m
    · rw [hp.2 e, e]
      simp
    · have h1 : ¬ (grp m).take (grp n).length = grp n := fun z => e (hp.1 z)
      have h2 : ¬ (n : Int) = (m : Int) := by omega
      rw [beq_eq_false_iff_ne.2 h1, beq_eq_false_iff_ne.2 h2]
      rfl
  · rw [if_neg hl]
    have h2 : ¬ (n : Int) = (m : Int) := by
      intro z
      have : n = m := by omega
      subst this
      omega
    rw [beq_eq_false_iff_ne.2 h2]
    rfl
end Go.Proofs.Ytbeegnajghkhoaa.OctF
namespace Go.Proofs.Ytbeegnajghkhoaa.Pure
open Go Go.RowKit Go.Proofs.Ytbeegnajghkhoaa.Px Go.Proofs.YtbeegnajghkhoaaW.PrintWords Go.Proofs.Ytbeegnajghkhoaa.Str Go.Proofs.Ytbeegnajghkhoaa.OctF
theorem OctetOne : gonglaw01_OctetOne.Pure := by
  intro s x y hs _ _
  apply Ev.rounds
  have hw : ∀ b, b = true → Ev (fun k => gonglaw01_OctetOne.j0 k s x y b) true := by
    rintro b rfl
    exact Ev.step (f := fun _ => some true) (fun k => by simp only [gonglaw01_OctetOne.j0]; rw [if_pos trivial, works_f]; rfl) (Ev.now _)
  have h1 : Ev (fun k => gonglaw01_OctetOne.j1 k x y false) true :=
    Ev.step (f := fun _ => some true) (fun k => by simp only [gonglaw01_OctetOne.j1]; rw [if_neg (by decide)]; exact begins x y) (Ev.now _)
  have h2 : Ev (fun k => gonglaw01_OctetOne.j2 k x y false) true :=
    Ev.step (f := fun _ => some true) (fun k => by simp only [gonglaw01_OctetOne.j2]; rw [if_neg (by decide)]; exact begins x y) (Ev.now _)
  refine Ev.congr (f := fun k => gonglaw01_OctetOne.j0 k s x y (decide ((s.size : Int) > 1000))) (fun k => by unfold gonglaw01_OctetOne.f; rw [works_f]; rfl) ?_
  by_cases hb : (s.size : Int) > 1000
  · exact hw _ (decide_eq_true hb)
  · rw [decide_eq_false hb]
    refine Ev.step (f := fun k => (octet_Reader_Groups.f k s 0 9223372036854775807).bind fun bt144 => (octet_Reader_Code.f bt144.2.1 bt144.2.2).bind fun bt147 => (if bt147.1 = 0 then ((octet_Groups.f bt144.1).bind fun bt150 => (if bt150.2 = 0 then ((octet_Reader_Left.f bt147.2.1 bt147.2.2).bind fun bt152 => (if 0 ≤ (wrap64 ((s.size : Int) - bt152.1)) then (if (wrap64 ((s.size : Int) - bt152.1)) ≤ (s.size : Int) then (gonglaw01_OctetOne.j1 k x y (bt150.1.toList != (s.extract 0 ((wrap64 ((s.size : Int) - bt152.1)) : Int).toNat).toList)) else (none)) else (none))) else (gonglaw01_OctetOne.j1 k x y true))) else (if bt144.1 = 0 then ((octet_Reader_Left.f bt147.2.1 bt147.2.2).bind fun bt159 => (gonglaw01_OctetOne.j2 k x y (bt159.1 != (s.size : Int)))) else (gonglaw01_OctetOne.j2 k x y true)))) (fun k => ?_) ?_
    · simp only [gonglaw01_OctetOne.j0]
      rw [if_neg (by decide)]
      rfl
    · refine Ev.bind (rGroups_ev s 0 9223372036854775807) ?_
      rw [if_pos rfl]
      simp only [octet_Reader_Code.f, octet_Reader_Left.f, Option.bind_some, ofL_size, List.length_drop]
      by_cases hc : (rdG 9223372036854775807 s.data.toList).2.2 = 0
      · simp only [if_pos hc]
        obtain ⟨m, j, e1, e2, e3, e4⟩ := rdG_inv _ _ hc
        have hm := (rdG_most 9223372036854775807 9 0 s.data.toList 0 (by decide) (by decide) (by decide)).2
        have hm' : (rdG 9223372036854775807 s.data.toList).1 < 9223372036854775808 := hm
        rw [e1] at hm'
        rw [e1, e2, groups_ok m (by omega)]
        simp only [Option.bind_some, if_true, Int.toNat_natCast]
        have hsz : s.data.toList.length = s.size := by simp
        rw [hsz] at e3 ⊢
        rw [wrap64_id (by omega) (by omega)]
        have c1 : 0 ≤ (s.size : Int) - ((s.size - j : Nat) : Int) := by omega
        have c2 : (s.size : Int) - ((s.size - j : Nat) : Int) ≤ (s.size : Int) := by omega
        simp only [if_pos c1, if_pos c2]
        have c3 : ((s.size : Int) - ((s.size - j : Nat) : Int)).toNat = j := by omega
        rw [c3, toList_L, toList_L, ofL_L, pre_L, e4, bne_self_eq_false]
        exact h1
      · obtain ⟨_, _, hl, _, _⟩ := rdG_long 9223372036854775807 s.data.toList
        obtain ⟨l1, l2⟩ := hl hc
        simp only [if_neg hc, l1, l2, if_true, Int.toNat_zero, Nat.sub_zero]
        have hsz : s.data.toList.length = s.size := by simp
        rw [hsz, bne_self_eq_false]
        exact h2
end Go.Proofs.Ytbeegnajghkhoaa.Pure
end
/-! OctW -/
section
/- A reader's wide numbers and texts. -/
namespace Go.Proofs.Ytbeegnajghkhoaa.OctF
open Go Go.RowKit Go.Proofs.Ytbeegnajghkhoaa.Px Go.Proofs.YtbeegnajghkhoaaW.PrintWords Go.Proofs.Ytbeegnajghkhoaa.Str
theorem join8 (n b : Nat) (hn : n < 72057594037927936) (hb : b < 256) : Go.bits .or .u64 (IntKind.u64.wrap ((n : Int) * 256)) (b : Int) = ((n * 256 + b : Nat) : Int) := by
  have hw : IntKind.u64.wrap ((n : Int) * 256) = (n : Int) * 256 := by rw [IntKind.wrap_u64]; omega
  rw [hw, bits_join .u64 64 (by decide) (fun n h0 h1 => by rw [IntKind.wrap_u64]; omega) 8 ((n : Int) * 256) (b : Int) (by omega) (by omega) (by omega) (by omega) (by omega) (by omega)]
  omega
theorem wideU_val (l : List UInt8) (h : l.length ≤ 8) : Oct.wideU (l.map fun b => (b.toNat : Int)) = (val l : Int) := by
  have key : ∀ l : List UInt8, l.length ≤ 8 → Oct.wideU (l.map fun b => (b.toNat : Int)) = (val l : Int) := fun l => by
    refine snoc_ind (Q := fun l => l.length ≤ 8 → Oct.wideU (l.map fun b => (b.toNat : Int)) = (val l : Int)) (fun _ => rfl) (fun l b ih h => ?_) l
    rw [List.length_append, List.length_singleton] at h
    have h1 := ih (by omega)
    have hv := val_lt l
    have h7 : (256 : Nat) ^ l.length ≤ 72057594037927936 := Nat.le_trans (Nat.pow_le_pow_right (by decide) (show l.length ≤ 7 by omega)) (by decide)
    unfold Oct.wideU at h1 ⊢
    rw [List.map_append, List.foldl_append, h1, val_snoc]
    exact join8 (val l) b.toNat (by omega) (by have := b.toNat_lt; omega)
  exact key l h
theorem rWide (s : ByteArray) (c w : Int) : octet_Reader_Wide.f s c w = some (if c = 0 then (if w < 1 ∨ 8 < w then (0, s, 1) else if w > (s.size : Int) then (0, s, 10) else if val (s.data.toList.take w.toNat) < 9223372036854775808 then ((val (s.data.toList.take w.toNat) : Int), ofL (s.data.toList.drop w.toNat), 0) else (0, s, 1)) else (0, s, c)) := by
  have h0 : (⟨#[]⟩ : ByteArray).size ≤ 8 := by decide
  have h0' : Oct.wideU (BR.ints ⟨#[]⟩) < 9223372036854775808 := by decide
  have h0v : Oct.wideU (BR.ints ⟨#[]⟩) = 0 := by decide
  unfold octet_Reader_Wide.f
  by_cases hc : c = 0
  · subst hc
    by_cases hw : w < 1 ∨ 8 < w
    · simp only [if_pos hw, if_true, octet_Reader_Refuse.f, Option.bind_some, rBytes, show ¬ (1 : Int) = 0 by decide, if_false]
      simp [h0, h0v]
    · simp only [if_neg hw, if_true, Option.bind_some, rBytes]
      simp only [if_neg (show ¬ w < 0 by omega)]
      by_cases hg : w > (s.size : Int)
      · simp only [if_pos hg]
        simp [h0, h0v]
      · simp only [if_neg hg]
        have hl : (s.data.toList.take w.toNat).length = w.toNat := by rw [List.length_take]; simp; omega
        have hs8 : (ofL (s.data.toList.take w.toNat)).size ≤ 8 := by rw [ofL_size, hl]; omega
        have hv : Oct.wideU (BR.ints (ofL (s.data.toList.take w.toNat))) = (val (s.data.toList.take w.toNat) : Int) := wideU_val (s.data.toList.take w.toNat) (by rw [hl]; omega)
        simp only [if_pos hs8, hv]
        by_cases hb : val (s.data.toList.take w.toNat) < 9223372036854775808
        · simp only [if_pos hb, if_pos (show (val (s.data.toList.take w.toNat) : Int) < 9223372036854775808 by omega)]
        · simp only [if_neg hb, if_neg (show ¬ (val (s.data.toList.take w.toNat) : Int) < 9223372036854775808 by omega)]
          simp [octet_Reader_Refuse.f]
  · have e : (if w < 1 ∨ 8 < w then octet_Reader_Refuse.f s c 1 else some (s, c)) = some (s, c) := by
      unfold octet_Reader_Refuse.f
      rw [if_neg hc]
      split <;> rfl
    rw [e]
    simp only [Option.bind_some, rBytes, if_neg hc]
    simp [h0, h0v]
theorem rText (s : ByteArray) (c most : Int) : octet_Reader_Text.f s c most = some (if c = 0 then (if (rdG most s.data.toList).2.2 = 0 then (if (rdG most s.data.toList).1 > ((s.data.toList.drop (rdG most s.data.toList).2.1.toNat).length : Int) then (⟨#[]⟩, s, 10) else (ofL ((s.data.toList.drop (rdG most s.data.toList).2.1.toNat).take (rdG most s.data.toList).1.toNat), ofL ((s.data.toList.drop (rdG most s.data.toList).2.1.toNat).drop (rdG most s.data.toList).1.toNat), 0)) else (⟨#[]⟩, s, (rdG most s.data.toList).2.2)) else (⟨#[]⟩, s, c)) := by
  unfold octet_Reader_Text.f
  rw [rGroups s c most 40 (by decide)]
  simp only [Option.bind_some]
  obtain ⟨_, _, _, h4, _⟩ := rdG_long most s.data.toList
  by_cases hc : c = 0
  · simp only [if_pos hc]
    by_cases he : (rdG most s.data.toList).2.2 = 0
    · simp only [he, rBytes, if_true]
      rw [if_neg (by omega), ofL_size]
      by_cases hg : (rdG most s.data.toList).1 > ((s.data.toList.drop (rdG most s.data.toList).2.1.toNat).length : Int)
      · rw [if_pos hg, if_pos hg]
        rfl
      · rw [if_neg hg, if_neg hg]
        simp only [Option.bind_some, if_true, ofL_L]
    · simp only [if_neg he, rBytes, Option.bind_some]
  · simp only [if_neg hc, rBytes, Option.bind_some]
end Go.Proofs.Ytbeegnajghkhoaa.OctF
end
/-! PureOctetBack -/
section
/- The statement OctetBack over whole numbers and lists alone: numbers and texts that are written are read back so. -/
namespace Go.Proofs.Ytbeegnajghkhoaa.OctF
open Go Go.RowKit Go.Proofs.Ytbeegnajghkhoaa.Px Go.Proofs.YtbeegnajghkhoaaW.PrintWords Go.Proofs.Ytbeegnajghkhoaa.Str
def num (x : Int) : Nat := (x % 9223372036854775808).toNat
theorem num_eq (x : Int) : Go.bits .and .i64 x 9223372036854775807 = (num x : Int) := by rw [and63]; unfold num; omega
theorem num_lt (x : Int) : num x < 9223372036854775808 := by unfold num; omega
def encN (l : List Int) : List UInt8 := l.flatMap fun x => grp (num x) ++ be 8 (num x)
def cutL (s : ByteArray) : List UInt8 := s.data.toList.take 200
def encT (l : List ByteArray) : List UInt8 := l.flatMap fun s => grp (cutL s).length ++ cutL s
theorem cut_f (s : ByteArray) : gongbook_Cut.f s 200 = some (ofL (cutL s)) := by
  unfold gongbook_Cut.f cutL
  by_cases h : (s.size : Int) > 200
  · rw [if_pos h, if_pos (by omega), if_pos (by omega)]
    congr 1
    apply ext
    rw [pre_L, ofL_L]
    rfl
  · rw [if_neg h, List.take_of_length_le (by simp; omega), ofL_of]
theorem cutL_length (s : ByteArray) : (cutL s).length ≤ 200 := by unfold cutL; rw [List.length_take]; omega
theorem encN_length (l : List Int) : (encN l).length ≤ 17 * l.length := by
  induction l with
  | nil => simp [encN]
  | cons x l ih =>
    have := grp_length (num x) (num_lt x)
    simp only [encN, List.flatMap_cons, List.length_append, be_length, List.length_cons] at ih ⊢
    omega
theorem encT_length (l : List ByteArray) : (encT l).length ≤ 209 * l.length := by
  induction l with
  | nil => simp [encT]
  | cons x l ih =>
    have h := cutL_length x
    have := grp_length (cutL x).length (by omega)
    simp only [encT, List.flatMap_cons, List.length_append, List.length_cons] at ih ⊢
    omega
theorem encN_snoc (l : List Int) (i : Nat) (h : i < l.length) : encN (l.take (i + 1)) = encN (l.take i) ++ (grp (num (l.getD i 0)) ++ be 8 (num (l.getD i 0))) := by
  rw [List.take_succ_eq_append_getElem h]
  simp only [encN, List.flatMap_append, List.flatMap_cons, List.flatMap_nil, List.append_nil, List.getD_eq_getElem?_getD, List.getElem?_eq_getElem h, Option.getD_some]
theorem encT_snoc (l : List ByteArray) (i : Nat) (h : i < l.length) : encT (l.take (i + 1)) = encT (l.take i) ++ (grp (cutL (l.getD i ByteArray.empty)).length ++ cutL (l.getD i ByteArray.empty)) := by
  rw [List.take_succ_eq_append_getElem h]
  simp only [encT, List.flatMap_append, List.flatMap_cons, List.flatMap_nil, List.append_nil, List.getD_eq_getElem?_getD, List.getElem?_eq_getElem h, Option.getD_some]
theorem encN_drop (l : List Int) (i : Nat) (h : i < l.length) : encN (l.drop i) = grp (num (l.getD i 0)) ++ (be 8 (num (l.getD i 0)) ++ encN (l.drop (i + 1))) := by
  rw [List.drop_eq_getElem_cons h]
  simp only [encN, List.flatMap_cons, List.getD_eq_getElem?_getD, List.getElem?_eq_getElem h, Option.getD_some, List.append_assoc]
theorem encT_drop (l : List ByteArray) (i : Nat) (h : i < l.length) : encT (l.drop i) = grp (cutL (l.getD i ByteArray.empty)).length ++ (cutL (l.getD i ByteArray.empty) ++ encT (l.drop (i + 1))) := by
  rw [List.drop_eq_getElem_cons h]
  simp only [encT, List.flatMap_cons, List.getD_eq_getElem?_getD, List.getElem?_eq_getElem h, Option.getD_some, List.append_assoc]
theorem rd_getD (l : List Int) (i : Nat) : rd l (i : Int) = l.getD i 0 := by unfold rd; rw [Int.toNat_natCast]
theorem rdOf_getD (l : List ByteArray) (i : Nat) : rdOf ByteArray.empty l (i : Int) = l.getD i ByteArray.empty := by unfold rdOf; rw [Int.toNat_natCast]
theorem getD_take {α : Type} (l : List α) (i m : Nat) (d : α) (h : i < m) : (l.take m).getD i d = l.getD i d := by
  simp [List.getD, h]
end Go.Proofs.Ytbeegnajghkhoaa.OctF
namespace Go.Proofs.Ytbeegnajghkhoaa.Pure
open Go Go.RowKit Go.Proofs.Ytbeegnajghkhoaa.Px Go.Proofs.YtbeegnajghkhoaaW.PrintWords Go.Proofs.Ytbeegnajghkhoaa.Str Go.Proofs.Ytbeegnajghkhoaa.OctF
section
variable (l : List Int) (ts : List ByteArray) (hl : l.length ≤ 4611686018427387904) (ht : ts.length ≤ 4611686018427387904)
include ht in
theorem back_l3 (d : Nat) : ∀ i : Nat, i + d = (ts.take 30).length → Ev (fun k => gonglaw01_OctetBack.l3 k ts (i : Int) (ofL (encT ((ts.take 30).drop i))) 0) true := by
  have hlen : (ts.take 30).length = min 30 ts.length := List.length_take
  induction d with
  | zero =>
    intro i hi
    have fin : Ev (fun k => gonglaw01_OctetBack.j7 k ts (i : Int) false (ofL (encT ((ts.take 30).drop i))) 0) true := by
      refine Ev.step (f := fun _ => some true) (fun k => ?_) (Ev.now _)
      simp only [gonglaw01_OctetBack.j7]
      rw [if_neg (by decide), List.drop_of_length_le (by omega)]
      have e0 : encT [] = [] := rfl
      have e1 : (ofL []).size = 0 := by rw [ofL_size]; rfl
      simp only [e0, octet_Reader_Left.f, octet_Reader_Code.f, octet_Reader_Done.f, toList_L, ofL_L, e1, Option.bind_some]
      rfl
    refine Ev.step (fun k => ?_) fin
    simp only [gonglaw01_OctetBack.l3]
    by_cases h : (i : Int) < (ts.length : Int)
    · rw [if_pos h, decide_eq_false (by omega)]
    · rw [if_neg h]
  | succ d ih =>
    intro i hi
    have c1 : (0 : Int) ≤ (i : Int) := by omega
    have c2 : (i : Int) < (ts.length : Int) := by omega
    refine Ev.step (f := fun k => gonglaw01_OctetBack.j7 k ts (i : Int) true (ofL (encT ((ts.take 30).drop i))) 0) (fun k => ?_) ?_
    · simp only [gonglaw01_OctetBack.l3]
      rw [if_pos c2, decide_eq_true (by omega)]
    · refine Ev.step (fun k => ?_) (ih (i + 1) (by omega))
      simp only [gonglaw01_OctetBack.j7]
      rw [if_pos trivial, rText, ofL_L, encT_drop _ i (by omega), getD_take _ _ _ _ (by omega)]
      have hc := cutL_length (ts.getD i ByteArray.empty)
      rw [rdG_grp 200 _ _ (by omega) (by omega)]
      simp only [if_true, Option.bind_some, Int.toNat_natCast]
      rw [List.drop_left]
      simp only [if_neg (show ¬ ((cutL (ts.getD i ByteArray.empty)).length : Int) > ((cutL (ts.getD i ByteArray.empty) ++ encT ((ts.take 30).drop (i + 1))).length : Int) by rw [List.length_append]; omega), List.take_left, List.drop_left, if_pos c1, if_pos c2, rdOf_getD, cut_f, Option.bind_some, if_true]
      rw [wrap64_id (by omega) (by omega)]
      rfl
include hl ht in
theorem back_l2 (d : Nat) : ∀ i : Nat, i + d = (l.take 30).length → Ev (fun k => gonglaw01_OctetBack.l2 k l ts (i : Int) (ofL (encN ((l.take 30).drop i) ++ encT (ts.take 30))) 0) true := by
  have hlen : (l.take 30).length = min 30 l.length := List.length_take
  induction d with
  | zero =>
    intro i hi
    have h3 := back_l3 ts ht (ts.take 30).length 0 (by omega)
    rw [List.drop_zero] at h3
    have fin : Ev (fun k => gonglaw01_OctetBack.j5 k l ts (i : Int) false (ofL (encN ((l.take 30).drop i) ++ encT (ts.take 30))) 0) true := by
      refine Ev.step (fun k => ?_) h3
      simp only [gonglaw01_OctetBack.j5]
      rw [if_neg (by decide), List.drop_of_length_le (by omega)]
      rfl
    refine Ev.step (fun k => ?_) fin
    simp only [gonglaw01_OctetBack.l2]
    by_cases h : (i : Int) < (l.length : Int)
    · rw [if_pos h, decide_eq_false (by omega)]
    · rw [if_neg h]
  | succ d ih =>
    intro i hi
    have c1 : (0 : Int) ≤ (i : Int) := by omega
    have c2 : (i : Int) < (l.length : Int) := by omega
    have hn := num_lt (l.getD i 0)
    refine Ev.step (f := fun k => gonglaw01_OctetBack.j5 k l ts (i : Int) true (ofL (encN ((l.take 30).drop i) ++ encT (ts.take 30))) 0) (fun k => ?_) ?_
    · simp only [gonglaw01_OctetBack.l2]
      rw [if_pos c2, decide_eq_true (by omega)]
    · refine Ev.step (f := fun k => (octet_Reader_Groups.f k (ofL (encN ((l.take 30).drop i) ++ encT (ts.take 30))) 0 9223372036854775807).bind fun b => if b.1 = (num (l.getD i 0) : Int) then (octet_Reader_Wide.f b.2.1 b.2.2 8).bind fun b => if b.1 = (num (l.getD i 0) : Int) then gonglaw01_OctetBack.l2 k l ts (wrap64 ((i : Int) + 1)) b.2.1 b.2.2 else some false else some false) (fun k => ?_) ?_
      · simp only [gonglaw01_OctetBack.j5]
        rw [if_pos trivial, if_pos c1, if_pos c2, rd_getD, num_eq]
      · refine Ev.bind (rGroups_ev _ _ _) ?_
        rw [ofL_L, encN_drop _ i (by omega), getD_take _ _ _ _ (by omega), List.append_assoc, rdG_grp _ _ _ (by omega) hn]
        simp only [if_true, Int.toNat_natCast]
        rw [List.drop_left, rWide, ofL_L, List.append_assoc, ofL_size]
        have h8 : (be 8 (num (l.getD i 0))).length = 8 := be_length _ _
        simp only [if_true]
        rw [if_neg (by decide), if_neg (by rw [List.length_append, h8]; omega), show (8 : Int).toNat = (be 8 (num (l.getD i 0))).length by rw [h8]; rfl, List.take_left, List.drop_left, val_be, Nat.mod_eq_of_lt (by omega), if_pos hn]
        simp only [Option.bind_some, if_true]
        rw [wrap64_id (by omega) (by omega)]
        exact ih (i + 1) (by omega)
include hl ht in
theorem back_l1 (d : Nat) : ∀ i : Nat, i + d = (ts.take 30).length → Ev (fun k => gonglaw01_OctetBack.l1 k l ts (ofL (encN (l.take 30) ++ encT ((ts.take 30).take i))) (i : Int)) true := by
  have hlen : (ts.take 30).length = min 30 ts.length := List.length_take
  have hlen2 : (l.take 30).length = min 30 l.length := List.length_take
  have hN := encN_length (l.take 30)
  induction d with
  | zero =>
    intro i hi
    have h2 := back_l2 l ts hl ht (l.take 30).length 0 (by omega)
    rw [List.drop_zero] at h2
    have fin : Ev (fun k => gonglaw01_OctetBack.j3 k l ts (ofL (encN (l.take 30) ++ encT ((ts.take 30).take i))) (i : Int) false) true := by
      refine Ev.step (fun k => ?_) h2
      simp only [gonglaw01_OctetBack.j3]
      rw [if_neg (by decide), List.take_of_length_le (l := ts.take 30) (by omega)]
      rfl
    refine Ev.step (fun k => ?_) fin
    simp only [gonglaw01_OctetBack.l1]
    by_cases h : (i : Int) < (ts.length : Int)
    · rw [if_pos h, decide_eq_false (by omega)]
    · rw [if_neg h]
  | succ d ih =>
    intro i hi
    have c1 : (0 : Int) ≤ (i : Int) := by omega
    have c2 : (i : Int) < (ts.length : Int) := by omega
    have hT := encT_length ((ts.take 30).take i)
    have hT2 : ((ts.take 30).take i).length ≤ 30 := by rw [List.length_take]; omega
    refine Ev.step (f := fun k => gonglaw01_OctetBack.j3 k l ts (ofL (encN (l.take 30) ++ encT ((ts.take 30).take i))) (i : Int) true) (fun k => ?_) ?_
    · simp only [gonglaw01_OctetBack.l1]
      rw [if_pos c2, decide_eq_true (by omega)]
    · refine Ev.step (fun k => ?_) (ih (i + 1) (by omega))
      simp only [gonglaw01_OctetBack.j3]
      have hc := cutL_length (ts.getD i ByteArray.empty)
      have hg := grp_length (cutL (ts.getD i ByteArray.empty)).length (by omega)
      rw [if_pos trivial, if_pos c1, if_pos c2, rdOf_getD, cut_f]
      simp only [Option.bind_some]
      rw [text_ok _ (by rw [ofL_size]; omega), ofL_size, ofL_L]
      simp only [Option.bind_some]
      rw [if_pos (by simp only [ofL_size, List.length_append]; omega), wrap64_id (by omega) (by omega), encT_snoc _ i (by omega), getD_take _ _ _ _ (by omega)]
      congr 1
      apply ext
      rw [app_L, ofL_L, ofL_L, ofL_L, List.append_assoc]
include hl ht in
theorem back_l0 (d : Nat) : ∀ i : Nat, i + d = (l.take 30).length → Ev (fun k => gonglaw01_OctetBack.l0 k l ts (ofL (encN ((l.take 30).take i))) (i : Int)) true := by
  have hlen : (l.take 30).length = min 30 l.length := List.length_take
  induction d with
  | zero =>
    intro i hi
    have h1 := back_l1 l ts hl ht (ts.take 30).length 0 (by omega)
    rw [List.take_zero] at h1
    have fin : Ev (fun k => gonglaw01_OctetBack.j1 k l ts (ofL (encN ((l.take 30).take i))) (i : Int) false) true := by
      refine Ev.step (fun k => ?_) h1
      simp only [gonglaw01_OctetBack.j1]
      rw [if_neg (by decide), List.take_of_length_le (l := l.take 30) (by omega)]
      simp [encT]
    refine Ev.step (fun k => ?_) fin
    simp only [gonglaw01_OctetBack.l0]
    by_cases h : (i : Int) < (l.length : Int)
    · rw [if_pos h, decide_eq_false (by omega)]
    · rw [if_neg h]
  | succ d ih =>
    intro i hi
    have c1 : (0 : Int) ≤ (i : Int) := by omega
    have c2 : (i : Int) < (l.length : Int) := by omega
    have hT := encN_length ((l.take 30).take i)
    have hT2 : ((l.take 30).take i).length ≤ 30 := by rw [List.length_take]; omega
    have hn := num_lt (l.getD i 0)
    have hg := grp_length (num (l.getD i 0)) hn
    have h8 : (be 8 (num (l.getD i 0))).length = 8 := be_length _ _
    refine Ev.step (f := fun k => gonglaw01_OctetBack.j1 k l ts (ofL (encN ((l.take 30).take i))) (i : Int) true) (fun k => ?_) ?_
    · simp only [gonglaw01_OctetBack.l0]
      rw [if_pos c2, decide_eq_true (by omega)]
    · refine Ev.step (fun k => ?_) (ih (i + 1) (by omega))
      simp only [gonglaw01_OctetBack.j1]
      rw [if_pos trivial, if_pos c1, if_pos c2, rd_getD, num_eq, groups_ok _ hn, show (8 : Int) = ((8 : Nat) : Int) from rfl, wide_ok _ 8 (by decide) (by decide) hn, if_pos (show num (l.getD i 0) < 256 ^ 8 by omega)]
      simp only [Option.bind_some, if_true]
      rw [if_pos (by simp only [ofL_size]; omega), if_pos (by rw [size_L (_ ++ _), app_L, ofL_size, ofL_L, ofL_L, List.length_append]; omega), wrap64_id (by omega) (by omega), encN_snoc _ i (by omega), getD_take _ _ _ _ (by omega)]
      congr 1
end
theorem OctetBack : gonglaw01_OctetBack.PureL := by
  intro l ts _ hl _ ht
  apply Ev.rounds
  have h := back_l0 l ts (by omega) (by omega) (l.take 30).length 0 (by omega)
  refine Ev.congr (fun k => ?_) h
  unfold gonglaw01_OctetBack.f
  rw [works_f]
  rfl
end Go.Proofs.Ytbeegnajghkhoaa.Pure
end
/-! Opens -/
section
/- What came in and can be read as data is what the print's kinds say: whole numbers, bools, texts, structs, slices, in one another. -/
namespace Go.Proofs.Ytbeegnajghkhoaa.Open
open Go Go.RowKit Go.Proofs.YtbeegnajghkhoaaW.PrintWords

def Opens {α : Type} (d : Kd α) (P : Program) (t : TypeId) (WF : α → Prop) : Prop :=
  P.cellsOf t = d.sz ∧ ∀ (H : Type) (enc : TypeId × Value → H) (W : World) (base : Nat) (sp : Nat → Bool) (held : Bool) (fuel : Nat) (cs : List Value) (y : DataW H) (p : List MemPlace),
    DataW.trod enc P W base sp held fuel t cs = some (y, p) → (∀ n ∈ y.weights P t, n ≤ reachBytes) → ∃ x, d.K W x cs ∧ WF x

theorem int {P : Program} {t : TypeId} {k : IntKind} (h : P.underlying t = some (.int k)) (hc : P.cellsOf t = 1) : Opens (Kd.int k) P t (fun n => (Lit.int k n).wf = true) := by
  refine ⟨hc, fun H enc W base sp held fuel cs y p ht _ => ?_⟩
  obtain ⟨n, rfl, _, hw⟩ := DataW.trod_int h ht
  exact ⟨n, rfl, hw⟩
theorem bool {P : Program} {t : TypeId} (h : P.underlying t = some .bool) (hc : P.cellsOf t = 1) : Opens Kd.bool P t (fun _ => True) := by
  refine ⟨hc, fun H enc W base sp held fuel cs y p ht _ => ?_⟩
  cases fuel with
  | zero => simp [DataW.trod] at ht
  | succ fuel =>
    simp only [DataW.trod, h] at ht
    split at ht <;> first | (rename_i h1 h2; cases h1) | skip
    all_goals first | (cases ht; done) | skip
    all_goals simp_all
    · exact .inl rfl
    · exact .inr rfl
theorem string {P : Program} {t : TypeId} (h : P.underlying t = some .string) (hc : P.cellsOf t = 1) : Opens Kd.string P t (fun s => s.size ≤ 140737488351232) := by
  refine ⟨hc, fun H enc W base sp held fuel cs y p ht hw => ?_⟩
  obtain ⟨s, rfl, he, hs⟩ := DataW.trod_string h ht
  obtain ⟨rfl, rfl⟩ := Prod.mk.inj he
  refine ⟨s, rfl, ?_⟩
  have := hw s.data.toList.length (by simp [DataW.weights])
  have h2 : reachBytes = 140737488351232 := rfl
  rw [h2] at this
  simpa using this

theorem choose_list {α : Type} {Q : Nat → α → Prop} : ∀ n, (∀ i, i < n → ∃ x, Q i x) → ∃ l : List α, l.length = n ∧ ∀ i x, l[i]? = some x → Q i x
  | 0, _ => ⟨[], rfl, fun i x h => by simp at h⟩
  | n + 1, h => by
    obtain ⟨l, hl, hq⟩ := choose_list n (fun i hi => h i (by omega))
    obtain ⟨x, hx⟩ := h n (by omega)
    refine ⟨l ++ [x], by simp [hl], fun i y hy => ?_⟩
    rcases Nat.lt_trichotomy i n with hlt | rfl | hgt
    · rw [List.getElem?_append_left (by omega)] at hy
      exact hq i y hy
    · rw [List.getElem?_append_right (by omega), hl] at hy
      simp at hy
      subst hy
      exact hx
    · rw [List.getElem?_append_right (by omega)] at hy
      rw [List.getElem?_eq_none (by simp; omega)] at hy
      cases hy

theorem weights_all {H : Type} {P : Program} {e : TypeId} : ∀ {l : List (DataW H)} {i : Nat} {d : DataW H}, l[i]? = some d → ∀ n ∈ d.weights P e, n ∈ DataW.weightsAll P e l
  | x :: l, 0, d, h, n, hn => by
    simp only [List.getElem?_cons_zero, Option.some.injEq] at h
    subst h
    simp only [DataW.weightsAll, List.mem_append]
    exact .inl hn
  | x :: l, i + 1, d, h, n, hn => by
    simp only [List.getElem?_cons_succ] at h
    simp only [DataW.weightsAll, List.mem_append]
    exact .inr (weights_all h n hn)
  | [], _, _, h, _, _ => by simp at h

theorem cells_at {w : World} {base : Nat} {a : Addr} {n : Nat} {cs : List Value} (h : w.cells? base a n = some cs) : cs.length = n ∧ ∀ j u, cs[j]? = some u → w.cell? (a.add j) = some u := by
  unfold World.cells? at h
  split at h
  · have hl := Lib.mapM_length h
    simp at hl
    refine ⟨hl, fun j u hu => ?_⟩
    have hj : j < n := by
      rcases Nat.lt_or_ge j n with h' | h'
      · exact h'
      · rw [List.getElem?_eq_none (by omega)] at hu
        cases hu
    obtain ⟨b, hb, hf⟩ := Lib.mapM_at h j j (by simp [hj])
    rw [hu] at hb
    injection hb with hb
    subst hb
    exact hf
  · cases h

/-- A slice's elements, up to its length. -/
theorem slice_elems {α : Type} {d : Kd α} {P : Program} {t e : TypeId} {WF : α → Prop} (ht : P.underlying t = some (.slice e)) (hd : Opens d P e WF)
    {H : Type} {enc : TypeId × Value → H} {W : World} {base : Nat} {sp : Nat → Bool} {held : Bool} {fuel : Nat} {A : Option Addr} {len cap : Nat} {y : DataW H} {p : List MemPlace}
    (h : DataW.trod enc P W base sp held fuel t [.slice A len cap] = some (y, p)) (hw : ∀ n ∈ y.weights P t, n ≤ reachBytes) :
    ∃ l : List α, l.length = len ∧ Kd.C d W A len l ∧ len ≤ cap ∧ (∀ x ∈ l, WF x) ∧ len * P.bytesOf e ≤ 140737488351232 := by
  cases fuel with
  | zero => simp [DataW.trod] at h
  | succ fuel =>
    cases A with
    | none =>
      have h' := h
      simp only [DataW.trod, ht] at h'
      split at h' <;> simp_all
      exact Kd.C_nil d W
    | some a =>
      simp only [DataW.trod, ht] at h
      split at h
      · rename_i hb
        obtain ⟨elems, hm, h⟩ := Option.bind_eq_some_iff.1 h
        obtain ⟨rest, hr, h⟩ := Option.map_eq_some_iff.1 h
        simp only [Prod.mk.injEq] at h
        obtain ⟨rfl, rfl⟩ := h
        have hel : elems.length = len := by simpa using Lib.mapM_length hm
        simp only [DataW.weights, ht, List.mem_cons, List.mem_append] at hw
        have hsz := hw _ (.inl rfl)
        simp only [List.length_map, hel] at hsz
        have hex : ∀ i, i < len → ∃ x, (∃ c, c.length = d.sz ∧ d.K W x c ∧ ∀ j u, c[j]? = some u → W.cell? (a.add (i * d.sz + j)) = some u) ∧ WF x := by
          intro i hi
          obtain ⟨b, hb', hf⟩ := Lib.mapM_at hm i i (by simp [hi])
          obtain ⟨c, hc, hf⟩ := Option.bind_eq_some_iff.1 hf
          obtain ⟨hcl, hcell⟩ := cells_at hc
          obtain ⟨yb, pb⟩ := b
          obtain ⟨x, hx, hwf⟩ := hd.2 H enc W base sp held fuel c yb pb hf (fun n hn => hw n (.inr (.inl (weights_all (i := i) (d := yb) (by simp [hb']) n hn))))
          rw [hd.1] at hcell hcl
          exact ⟨x, ⟨c, hcl, hx, fun j u hu => by rw [← hcell j u hu, Addr.add_add]⟩, hwf⟩
        obtain ⟨l, hl, hq⟩ := choose_list len hex
        refine ⟨l, hl, ⟨hl, by have := hb.2; unfold maxLen at this; omega, fun _ => ⟨a, rfl, fun j x hx => (hq j x hx).1⟩⟩, hb.2.1, fun x hx => ?_, ?_⟩
        · obtain ⟨i, hi⟩ := List.mem_iff_getElem?.1 hx
          exact (hq i x hi).2
        · have h1 : len * P.bytesOf e ≤ (len + rest.length) * P.bytesOf e := Nat.mul_le_mul_right _ (by omega)
          have h2 : reachBytes = 140737488351232 := rfl
          omega
      · cases h
theorem slice {α : Type} {d : Kd α} {P : Program} {t e : TypeId} {WF : α → Prop} (ht : P.underlying t = some (.slice e)) (hd : Opens d P e WF) (hc : P.cellsOf t = 1) :
    Opens (Kd.slice e d) P t (fun l => (∀ x ∈ l, WF x) ∧ l.length * P.bytesOf e ≤ 140737488351232) := by
  refine ⟨hc, fun H enc W base sp held fuel cs y p h hw => ?_⟩
  have hform : ∃ A len cap, cs = [.slice A len cap] := by
    cases fuel with
    | zero => simp [DataW.trod] at h
    | succ fuel =>
      have h' := h
      simp only [DataW.trod, ht] at h'
      split at h' <;> first | exact ⟨_, _, _, rfl⟩ | (simp_all; done) | skip
      all_goals (simp_all)
  obtain ⟨A, len, cap, rfl⟩ := hform
  obtain ⟨l, hl, hC, hcap, hwf, hb⟩ := slice_elems ht hd h hw
  subst hl
  exact ⟨l, ⟨A, cap, rfl, hcap, hC⟩, hwf, hb⟩

/-- A struct's fields from one place on. -/
def Fields {α : Type} (d : Kd α) (P : Program) (fs : List Field) (o : Nat) (WF : α → Prop) : Prop :=
  ∀ (H : Type) (enc : TypeId × Value → H) (W : World) (base : Nat) (sp : Nat → Bool) (held : Bool) (fuel : Nat) (cs : List Value) (xs : List (DataW H × List MemPlace)), cs.length = o + d.sz →
    (fs.mapM fun f => DataW.trod enc P W base sp held fuel f.type ((cs.drop f.offset).take (P.cellsOf f.type))) = some xs → (∀ n ∈ DataW.weightsEach P (fs.map (·.type)) (xs.map (·.1)), n ≤ reachBytes) → ∃ x, d.K W x (cs.drop o) ∧ WF x
theorem field_last {α : Type} {d : Kd α} {P : Program} {f : Field} {o : Nat} {WF : α → Prop} (ho : f.offset = o) (hd : Opens d P f.type WF) : Fields d P [f] o WF := by
  intro H enc W base sp held fuel cs xs hl hm hw
  simp only [List.mapM_cons, List.mapM_nil, Option.bind_eq_bind, Option.bind_eq_some_iff, Option.pure_def, Option.some.injEq] at hm
  obtain ⟨⟨y, p⟩, hy, _, rfl, rfl⟩ := hm
  rw [ho, hd.1, List.take_of_length_le (by simp; omega)] at hy
  exact hd.2 H enc W base sp held fuel _ y p hy (fun n hn => hw n (by simp [DataW.weightsEach, hn]))
theorem field_more {α β : Type} {d0 : Kd α} {d1 : Kd β} {P : Program} {f : Field} {fs : List Field} {o : Nat} {WF0 : α → Prop} {WF1 : β → Prop} (ho : f.offset = o) (h0 : Opens d0 P f.type WF0) (h1 : Fields d1 P fs (o + d0.sz) WF1) :
    Fields (Kd.pair d0 d1) P (f :: fs) o (fun x => WF0 x.1 ∧ WF1 x.2) := by
  intro H enc W base sp held fuel cs xs hl hm hw
  simp only [List.mapM_cons, Option.bind_eq_bind, Option.bind_eq_some_iff, Option.pure_def, Option.some.injEq] at hm
  obtain ⟨⟨y, p⟩, hy, ys, hys, rfl⟩ := hm
  have hl' : cs.length = (o + d0.sz) + d1.sz := by rw [hl]; show o + (d0.sz + d1.sz) = _; omega
  rw [ho, h0.1] at hy
  obtain ⟨x0, hx0, hw0⟩ := h0.2 H enc W base sp held fuel _ y p hy (fun n hn => hw n (by simp [DataW.weightsEach, hn]))
  obtain ⟨x1, hx1, hw1⟩ := h1 H enc W base sp held fuel cs ys hl' hys (fun n hn => hw n (by simp only [List.map_cons, DataW.weightsEach, List.mem_append]; exact .inr hn))
  refine ⟨(x0, x1), ⟨(cs.drop o).take d0.sz, cs.drop (o + d0.sz), ?_, hx0, hx1⟩, hw0, hw1⟩
  rw [← List.drop_drop, List.take_append_drop]
theorem struct {α β : Type} {d : Kd α} {P : Program} {t : TypeId} {fs : Array Field} {WF : α → Prop} (ht : P.underlying t = some (.struct fs)) (hc : P.cellsOf t = d.sz) (hf : Fields d P fs.toList 0 WF) (f : β → α) (g : α → β) (hg : ∀ y, f (g y) = y) :
    Opens (Kd.iso d f) P t (fun b => WF (f b)) := by
  refine ⟨hc, fun H enc W base sp held fuel cs y p h hw => ?_⟩
  cases fuel with
  | zero => simp [DataW.trod] at h
  | succ fuel =>
    simp only [DataW.trod, ht] at h
    split at h
    · rename_i hl
      obtain ⟨xs, hm, hx⟩ := Option.map_eq_some_iff.1 h
      simp only [Prod.mk.injEq] at hx
      obtain ⟨rfl, rfl⟩ := hx
      obtain ⟨x, hK, hwf⟩ := hf H enc W base sp held fuel cs xs (by omega) hm (fun n hn => hw n (by simpa [DataW.weights, ht] using hn))
      rw [List.drop_zero] at hK
      exact ⟨g x, by show d.K W (f (g x)) cs; rw [hg]; exact hK, by show WF (f (g x)); rw [hg]; exact hwf⟩
    · cases h
/-- An argument that is a slice. -/
theorem slice_arg {α : Type} {d : Kd α} {P : Program} {t e : TypeId} {WF : α → Prop} (ht : P.underlying t = some (.slice e)) (hd : Opens d P e WF)
    {H : Type} {enc : TypeId × Value → H} {W : World} {base : Nat} {sp : Nat → Bool} {held : Bool} {A : Option Addr} {len cap : Nat} {y : DataW H} {p : List MemPlace} {ts : List TypeId} {ds : List (DataW H)}
    (h : DataW.Trod enc P W base sp held t (.slice A len cap) y p) (hsz : (DataW.weightsEach P ts ds).all (· ≤ reachBytes) = true) {j : Nat} (htj : ts[j]? = some t) (hdj : ds[j]? = some y) :
    ∃ l : List α, len = l.length ∧ Kd.C d W A l.length l ∧ l.length ≤ cap ∧ (∀ x ∈ l, WF x) ∧ l.length * P.bytesOf e ≤ 140737488351232 := by
  obtain ⟨fuel, hf⟩ := h
  have hw : ∀ n ∈ y.weights P t, n ≤ reachBytes := fun n hn => by simpa using List.all_eq_true.1 hsz n (DataW.weights_mem_each htj hdj n hn)
  obtain ⟨l, hl, hC, hcap, hwf, hb⟩ := slice_elems ht hd (by simpa [Value.cells] using hf) hw
  subst hl
  exact ⟨l, rfl, hC, hcap, hwf, hb⟩
end Go.Proofs.Ytbeegnajghkhoaa.Open
end
/-! ROctetBack -/
section
/- OctetBack: for every input that the row speaks of the law returns true, and what came in reads as it did. No condition beside the form's own reach. -/
namespace Go.Proofs.Ytbeegnajghkhoaa.octetBack
open Go.ChangeShapes Go.WideShapes Go.ChangeAt Go.RowKit Go.Proofs.YtbeegnajghkhoaaW.PrintWords
open Go.ChangeMaps (open_string shut_string)
theorem own : ownKnob Try.prog.godebug = none := by kernel_rfl
theorem laidOut : laidOutB Try.prog = true := by kernel_rfl
set_option maxRecDepth 100000 in
theorem lifted (os : Os) (started : os.Started) (H : Type) (enc : TypeId × Value → H) :
    ReturnsInHanded {} Try.checked os 7 .any (Rows.octetBackSpec.pre6 enc Try.prog Try.f7 Rows.octetBackRow.domain false) (Rows.octetBackSpec.post enc Try.prog Try.f7 false true false false) := by
  refine returnsInHanded_of_change_sized (C := Try.checked) own started (by kernel_rfl) Try.func7
    (ChangeSpec.witness6 (enc := enc) (C := Try.checked) false ⟨#[], #[.slice none 0 0, .slice none 0 0], []⟩ 8 (by kernel_rfl) (by kernel_rfl) (by kernel_rfl) (by kernel_rfl)) ?_
  intro W base args ds gs before hval0 hW _ hsz0 _
  have hsz : (DataW.weightsEach Try.prog (Try.f7.params.toList ++ Rows.octetBackSpec.plain.varTypes Try.prog) (ds ++ gs)).all (· ≤ reachBytes) = true := hsz0
  have hval : ∀ (j : Nat) t v, Try.f7.params[j]? = some t → args[j]? = some v → Value.okWide Try.prog W .any base t v := hval0
  have hW' := hW
  obtain ⟨p, q, hA0, hV, rfl, hfz, hnd⟩ := hW
  have hA : DataW.TrodAll enc Try.prog W 0 (fun _ => true) true Try.f7.params.toList args.toList ds p := hA0
  rw [Try.params7] at hA hval hsz
  obtain ⟨v0, vs0, d0, ds0, p0, q0, hargs, rfl, rfl, h0, r0⟩ := trodAll_cons hA
  obtain ⟨v1, vs1, d1, ds1, p1, q1, rfl, rfl, rfl, h1, r1⟩ := trodAll_cons r0
  obtain ⟨rfl, rfl, rfl⟩ := trodAll_nil r1
  obtain rfl : args = #[v0, v1] := by cases args; simp_all
  obtain ⟨rfl, rfl⟩ := trodVars_none hV
  obtain ⟨a0, len0, cap0, rfl⟩ := okWide_slice Try.underlying47 (hval 0 47 v0 rfl rfl)
  have k0 := h0
  have lt0 : ∀ x ∈ p0, x.block < W.heap.size := by obtain ⟨m, hm⟩ := k0; exact DataW.trod_lt m _ _ _ hm
  obtain ⟨l0, rfl, hr0, hc0, wf0, y0⟩ := Open.slice_arg (d := (Kd.int .i64)) Try.underlying47 (Open.int Try.underlying3 (by kernel_rfl)) h0 hsz (j := 0) (t := 47) rfl rfl
  obtain ⟨a1, len1, cap1, rfl⟩ := okWide_slice Try.underlying48 (hval 1 48 v1 rfl rfl)
  have k1 := h1
  have lt1 : ∀ x ∈ p1, x.block < W.heap.size := by obtain ⟨m, hm⟩ := k1; exact DataW.trod_lt m _ _ _ hm
  obtain ⟨l1, rfl, hr1, hc1, wf1, y1⟩ := Open.slice_arg (d := Kd.string) Try.underlying48 (Open.string Try.underlying9 (by kernel_rfl)) h1 hsz (j := 1) (t := 48) rfl rfl
  clear hA0 hval0 hsz0 hsz
  obtain ⟨k, hk⟩ := Pure.OctetBack l0 l1 wf0 y0 wf1 y1
  refine (Px.gonglaw01_OctetBack.calls k _ _ l0 _ _ l1 true W hr0 hc0 hr1 hc1 hk).mono fun e W' ⟨he, hd⟩ => ?_
  subst he
  have bel : Below W.heap.size W W' := hd
  exact ⟨_, rfl, _, _, _, [], _, [], hW', trodAll_mk1 (shut_bool Try.underlying4 _), (trodAll_cons_mk (Below.trod laidOut (by kernel_rfl) (of_decide_eq_true (by kernel_rfl)) k0 bel lt0) (trodAll_cons_mk (Below.trod laidOut (by kernel_rfl) (of_decide_eq_true (by kernel_rfl)) k1 bel lt1) trodAll_mk0)), rfl, bel.frame _, fun h => by cases h⟩
theorem over : Rows.octetBackRow.holds Try.pinned (OpenSpec.ofChange Rows.octetBackSpec) :=
  OpenClaim.holds_of_wide 7 Try.f7 rfl rfl rfl rfl rfl rfl rfl ⟨rfl, rfl, rfl, rfl, rfl⟩ rfl rfl rfl rfl rfl (by kernel_rfl) Try.func7 (by kernel_rfl)
    (of_decide_eq_true (by kernel_rfl)) (by unfold Func.isWrapper; first | (rw [if_pos (by decide +kernel)]; kernel_rfl) | (rw [if_neg (by decide +kernel)]; exact ⟨rfl, rfl⟩))
    (fun os started H enc _ => lifted os started H enc)
theorem proved : Rows.OctetBackSaid := over
#print axioms proved
end Go.Proofs.Ytbeegnajghkhoaa.octetBack
namespace Go.Proofs.Ytbeegnajghkhoaa
/-- The row, under a short name, for the claim. -/
theorem octetBack_holds : Rows.OctetBackSaid := octetBack.proved
end Go.Proofs.Ytbeegnajghkhoaa
end
