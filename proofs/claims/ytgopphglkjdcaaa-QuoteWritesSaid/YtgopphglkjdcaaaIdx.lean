/- strings.IndexAny of any text, at the four bytes that end a name. -/
import Derived.Test.YtgopphglkjdcaaaShelf
import Derived.Test.YtgopphglkjdcaaaWWords
import Derived.Lib.OthersKept
import Derived.Laws.RangeAny
import Derived.Lib.Hide
import Derived.Deep.QuietTactic
import Derived.BigQuiet
import Derived.IntWalk
import Derived.Deep.RegionWith
import Derived.Deep.LoopGhost
namespace Go.Proofs.Ytgopphglkjdcaaa.Idx
open Go Go.RowKit Go.Lib Go.Proofs.YtgopphglkjdcaaaW.PrintWords
def stops : ByteArray := ⟨#[32, 61, 93, 34]⟩
theorem stops_low : ∀ j : Nat, (h : j < stops.size) → (stops[j]'h).toNat < 128 := by
  intro j h
  have : j < 4 := h
  match j, this with
  | 0, _ => show (32 : UInt8).toNat < 128; decide
  | 1, _ => show (61 : UInt8).toNat < 128; decide
  | 2, _ => show (93 : UInt8).toNat < 128; decide
  | 3, _ => show (34 : UInt8).toNat < 128; decide
theorem ix_none (l : List UInt8) (y : UInt8) (hl : ∀ b ∈ l, b.toNat < 128) (hy : 128 ≤ y.toNat) : Lib.indexByte l y = -1 := by
  induction l with
  | nil => rfl
  | cons b l ih =>
    have hb := hl b (by simp)
    unfold Lib.indexByte
    rw [if_neg (by intro z; rw [beq_iff_eq] at z; subst z; omega), ih (fun b h => hl b (by simp [h]))]
    rfl
set_option maxHeartbeats 2000000 in
set_option maxRecDepth 100000 in
theorem rune_err (w : World) : Calls Try.prog 73 #[.string stops, .int .i32 65533] w fun e w' => e = .returned (.int .i64 (-1)) ∧ Below w.heap.size w w' := by
  go_enter Try.func73, Try.ntmps73
  go_wp2_with fail
  go_loopg [5, 6] 4 (fun g _ _ wx => ∃ i : Nat, i + g = 4 ∧ wx = w.iter stops i)
  case atStart => exact ⟨0, by omega, rfl⟩
  case round =>
    obtain ⟨i, hig, rfl⟩ := hrel
    cases gk with
    | zero =>
      obtain rfl : i = 4 := by omega
      have hnx := fun ty => run_next_end (P := Try.prog) w stops 4 ty (by decide)
      go_wp2_with fail
      go_ret
      exact ⟨rfl, (Below.refl _ _).alloc (Nat.le_refl _) _⟩
    | succ g =>
      have hi : i < stops.size := by show i < 4; omega
      have hlow := stops_low i hi
      have hnx := fun ty => run_next_ascii (P := Try.prog) w stops i ty hi hlow
      generalize stops[i] = x at hlow hnx
      have hne : ((x.toNat : Int) == 65533) = false := beq_eq_false_iff_ne.mpr (by omega)
      clear hi
      go_wp2_with fail
      go_roundg g
      case measure => omega
      case rel => exact ⟨i + 1, by omega, rfl⟩
theorem tail_low (m : Nat) : ∀ b ∈ (stops.extract m stops.size).data.toList, b.toNat < 128 := by
  intro b hb
  have h : ∀ b ∈ stops.data.toList, b.toNat < 128 := by decide
  apply h
  simp only [ByteArray.data_extract, Array.toList_extract] at hb
  exact List.mem_of_mem_drop (List.mem_of_mem_take hb)
set_option maxHeartbeats 4000000 in
set_option maxRecDepth 100000 in
theorem rune_far (r : Int) (m : Nat) (hm : m = 1 ∨ m = 2 ∨ m = 3) (rs : ByteArray) (y : UInt8) (hsz : rs.size = m + 1) (hy : ∀ h : m < rs.size, rs[m]'h = y) (h128 : 128 ≤ y.toNat) (hr : 128 ≤ r) (hne : r ≠ 65533) (hr2 : r ≤ 1114111)
    (hv : Lib.validRune r = true) (hcv : ∀ w, (convert 21 9 (.int .i32 r)).run Try.prog w = .ok (.string rs) w) (w : World) :
    Calls Try.prog 73 #[.string stops, .int .i32 r] w fun e w' => e = .returned (.int .i64 (-1)) ∧ Below w.heap.size w w' := by
  have b1 : decide (r < 128) = false := decide_eq_false (by omega)
  have b2 : (r == 65533) = false := beq_eq_false_iff_ne.mpr hne
  have hml : m < 4 := by omega
  have hm0 : 1 ≤ m := by omega
  have hlow := stops_low m hml
  have hyx : ((stops[m]'hml).toNat : Int) ≠ (y.toNat : Int) := by omega
  have hix := ix_none _ y (tail_low (m + 1)) h128
  have HS := Lib.hid hsz
  have HY := Lib.hid hy
  have HV := Lib.hid hv
  have HI := Lib.hid hix
  clear hsz hy hv hix
  go_enter Try.func73, Try.ntmps73
  have hvr : Lib.validRune r = true := HV.out
  go_wp2_with (first | (go_at_call 81; refine (Try.utf8_ValidRune r _).mono ?_; rintro e w' ⟨rfl, rfl⟩))
  apply wp_scope_straight
  have hs1 : ((rs.size : Int)) = (m : Int) + 1 := by have := HS.out; omega
  go_wp2_with fail
  have hmi : (m : Int) < 4 := by omega
  have hz4 : (stops.size : Int) = 4 := rfl
  go_loopw [9] (fun v9 wr => v9 = .int .i64 (m : Int) ∧ wr = w') (fun _ _ => 0)
  case atStart => exact ⟨rfl, rfl⟩
  case round =>
    obtain ⟨rfl, rfl⟩ := hrel
    have q1 : m < rs.size := by have := HS.out; omega
    have hyr : rs[m]'q1 = y := HY.out q1
    have hne2 : (((stops[m]'hml).toNat : Int) == (y.toNat : Int)) = false := beq_eq_false_iff_ne.mpr hyx
    have hne3 : (((stops[m]'hml).toNat : Int) != (y.toNat : Int)) = true := bne_iff_ne.mpr hyx
    go_wp2_with fail
    apply wp_scope_straight
    go_wp2_with fail
    go_region
    go_wp2_with fail
    have hC : ∀ w, Calls Try.prog 80 #[.string (stops.extract (m + 1) stops.size), .int .u8 (y.toNat : Int)] w fun e w' => e = .returned (.int .i64 (-1)) ∧ w' = w := fun w => by
      refine (Try.strings_IndexByte _ _ w).mono ?_
      rintro e w' ⟨rfl, rfl⟩
      rw [show ((y.toNat : Int)).toNat.toUInt8 = y by simp, HI.out]
      exact ⟨rfl, rfl⟩
    have q2 : (m : Int) < (rs.size : Int) := by omega
    have q3 : (0 : Int) ≤ (m : Int) := by omega
    have g1 : IntKind.i64.wrap ((m : Int) + 1) = (m : Int) + 1 := IntWalk.i64_in _ (by omega)
    have g2 : (0 : Int) ≤ (m : Int) + 1 := by omega
    have g3 : ((m : Int) + 1).toNat = m + 1 := by omega
    have g4 : (m : Int) + 1 ≤ 4 := by omega
    have g5 : m + 1 ≤ stops.size := by show m + 1 ≤ 4; omega
    go_region_with (first | (go_at_call 80; refine (hC _).mono ?_; rintro e w' ⟨rfl, hw⟩; subst hw))
    all_goals (go_wp2_with fail; simp +zetaDelta only [Exit.noGoto, Exit.inBlock, Exit.then]; go_ret; exact ⟨rfl, by with_reducible repeat (first | exact Below.refl _ _ | apply pw_below_drewN | apply below_drew1)⟩)
theorem valid_far (r : Nat) (h0 : 128 ≤ r) (h1 : Lib.validRune (r : Int) = true) : Utf8.valid (r : Int) = true ∧ r ≤ 1114111 := by
  unfold Lib.validRune at h1
  unfold Utf8.valid
  simp only [decide_eq_true_eq, Bool.and_eq_true, Bool.or_eq_true] at h1 ⊢
  omega
theorem conv (r : Int) (w : World) : (convert 21 9 (.int .i32 r)).run Try.prog w = .ok (.string (Utf8.encode r)) w := by
  go_simp
theorem byte_far (r : Nat) : 128 ≤ (UInt8.ofNat (128 + r % 64)).toNat := by
  rw [UInt8.toNat_ofNat']
  omega
theorem rune_none (r : Nat) (h0 : 128 ≤ r) (h1 : r = 65533 ∨ Lib.validRune (r : Int) = true) (w : World) :
    Calls Try.prog 73 #[.string stops, .int .i32 (r : Int)] w fun e w' => e = .returned (.int .i64 (-1)) ∧ Below w.heap.size w w' := by
  by_cases he : r = 65533
  · subst he
    exact rune_err w
  · have hv : Lib.validRune (r : Int) = true := by
      rcases h1 with h | h
      · exact absurd h he
      · exact h
    obtain ⟨hu, hr⟩ := valid_far r h0 hv
    have hcv := conv (r : Int)
    have ht : ((r : Int)).toNat = r := Int.toNat_natCast r
    by_cases c1 : r < 2048
    · have e : Utf8.encode (r : Int) = ⟨#[UInt8.ofNat (192 + r / 64), UInt8.ofNat (128 + r % 64)]⟩ := by
        unfold Utf8.encode
        simp only [hu, if_true, ht]
        rw [if_neg (by omega), if_pos (by omega)]
      rw [e] at hcv
      exact rune_far r 1 (.inl rfl) _ (UInt8.ofNat (128 + r % 64)) rfl (fun _ => rfl) (byte_far r) (by omega) (by omega) (by omega) hv hcv w
    · by_cases c2 : r < 65536
      · have e : Utf8.encode (r : Int) = ⟨#[UInt8.ofNat (224 + r / 4096), UInt8.ofNat (128 + r / 64 % 64), UInt8.ofNat (128 + r % 64)]⟩ := by
          unfold Utf8.encode
          simp only [hu, if_true, ht]
          rw [if_neg (by omega), if_neg (by omega), if_pos (by omega)]
        rw [e] at hcv
        exact rune_far r 2 (.inr (.inl rfl)) _ (UInt8.ofNat (128 + r % 64)) rfl (fun _ => rfl) (byte_far r) (by omega) (by omega) (by omega) hv hcv w
      · have e : Utf8.encode (r : Int) = ⟨#[UInt8.ofNat (240 + r / 262144), UInt8.ofNat (128 + r / 4096 % 64), UInt8.ofNat (128 + r / 64 % 64), UInt8.ofNat (128 + r % 64)]⟩ := by
          unfold Utf8.encode
          simp only [hu, if_true, ht]
          rw [if_neg (by omega), if_neg (by omega), if_neg (by omega)]
        rw [e] at hcv
        exact rune_far r 3 (.inr (.inr rfl)) _ (UInt8.ofNat (128 + r % 64)) rfl (fun _ => rfl) (byte_far r) (by omega) (by omega) (by omega) hv hcv w
/-- What is told of bytes that don't begin with an ASCII one. -/
theorem get_at (s : ByteArray) (i : Nat) (h : i < s.size) : s.get! i = s[i]'h := by
  simp [ByteArray.get!, getElem!_pos, h]
  rfl
theorem decode_far (s : ByteArray) (pos : Nat) (h : pos < s.size) (hb : 128 ≤ (s[pos]'h).toNat) :
    128 ≤ (Utf8.decode s pos).1 ∧ ((Utf8.decode s pos).1 = 65533 ∨ Lib.validRune ((Utf8.decode s pos).1 : Int) = true) ∧ 1 ≤ (Utf8.decode s pos).2 ∧ pos + (Utf8.decode s pos).2 ≤ s.size ∧ ∀ j, pos ≤ j → j < pos + (Utf8.decode s pos).2 → 128 ≤ (s.get! j).toNat := by
  have h0 := get_at s pos h
  have hb0 : 128 ≤ (s.get! (pos + 0)).toNat := by rw [Nat.add_zero, h0]; exact hb
  have hs : ∀ k, (s.get! (pos + k)).toNat < 256 := fun k => (s.get! (pos + k)).toNat_lt
  have one : ∀ r : Nat, r = 65533 → 128 ≤ r ∧ (r = 65533 ∨ Lib.validRune (r : Int) = true) ∧ 1 ≤ 1 ∧ pos + 1 ≤ s.size ∧ ∀ j, pos ≤ j → j < pos + 1 → 128 ≤ (s.get! j).toNat := by
    intro r hr
    refine ⟨by omega, .inl hr, Nat.le_refl _, by omega, fun j h1 h2 => ?_⟩
    obtain rfl : j = pos := by omega
    exact hb0
  unfold Utf8.decode
  simp only
  rw [if_neg (by omega)]
  split
  · rename_i hc
    simp only [Bool.and_eq_true, beq_iff_eq, decide_eq_true_eq] at hc
    split
    · rename_i hg
      refine ⟨by omega, .inr ?_, by omega, by omega, fun j h1 h2 => ?_⟩
      · unfold Lib.validRune
        rw [decide_eq_true_eq]
        have := hs 0
        have := hs 1
        omega
      · have : j = pos ∨ j = pos + 1 := by omega
        rcases this with rfl | rfl
        · exact hb0
        · omega
    · exact one _ rfl
  · split
    · rename_i hc
      simp only [Bool.and_eq_true, beq_iff_eq, decide_eq_true_eq] at hc
      split
      · rename_i hg
        simp only [Bool.and_eq_true, decide_eq_true_eq] at hg
        refine ⟨by omega, .inr ?_, by omega, by omega, fun j h1 h2 => ?_⟩
        · have hv := hg.2
          unfold Utf8.valid at hv
          unfold Lib.validRune
          simp only [Bool.and_eq_true, Bool.or_eq_true, decide_eq_true_eq] at hv ⊢
          omega
        · have : j = pos ∨ j = pos + 1 ∨ j = pos + 2 := by omega
          rcases this with rfl | rfl | rfl
          · exact hb0
          · omega
          · omega
      · exact one _ rfl
    · split
      · rename_i hc
        simp only [Bool.and_eq_true, beq_iff_eq, decide_eq_true_eq] at hc
        split
        · rename_i hg
          simp only [Bool.and_eq_true, decide_eq_true_eq] at hg
          refine ⟨by omega, .inr ?_, by omega, by omega, fun j h1 h2 => ?_⟩
          · have hv := hg.2
            unfold Utf8.valid at hv
            unfold Lib.validRune
            simp only [Bool.and_eq_true, Bool.or_eq_true, decide_eq_true_eq] at hv ⊢
            omega
          · have : j = pos ∨ j = pos + 1 ∨ j = pos + 2 ∨ j = pos + 3 := by omega
            rcases this with rfl | rfl | rfl | rfl
            · exact hb0
            · omega
            · omega
            · omega
        · exact one _ rfl
      · exact one _ rfl
theorem noAny_run {l chars : List UInt8} {i n : Nat} (h : Lib.NoAny l chars i) (hn : ∀ j, i ≤ j → j < i + n → ∀ b, l[j]? = some b → chars.contains b = false) : Lib.NoAny l chars (i + n) := by
  intro j b hj hb
  by_cases hji : j < i
  · exact h j b hji hb
  · exact hn j (by omega) hj b hb
theorem far_out (b : UInt8) (h : 128 ≤ b.toNat) : stops.data.toList.contains b = false := by
  have hl : ∀ c ∈ stops.data.toList, c.toNat < 128 := by decide
  rw [Bool.eq_false_iff]
  intro z
  have := hl b (List.contains_iff_mem.1 z)
  omega
set_option maxHeartbeats 4000000 in
set_option maxRecDepth 100000 in
theorem any_short (s : ByteArray) (w : World) (h8 : s.size ≤ 8) :
    Calls Try.prog 63 #[.string s, .string stops] w fun e w' => e = .returned (.int .i64 (Lib.indexAny s.data.toList stops.data.toList)) ∧ Below w.heap.size w w' := by
  have h8z : decide ((8 : Int) < (s.size : Int)) = false := decide_eq_false (by omega)
  have hemp : stops.toList.isEmpty = false := by rw [Lib.toList_data]; rfl
  have hemq : (stops.toList == ([] : List UInt8)) = false := by rw [Lib.toList_data]; rfl
  have hz4 : (stops.size : Int) = 4 := rfl
  go_enter Try.func63, Try.ntmps63
  go_wp2_with (first | (go_at_call 74; refine (Try.strings_shouldUseASCIISet _ _).mono ?_; rintro e w' ⟨rfl, hw⟩; rw [hw, h8z]; clear hw w'))
  go_loopw [9, 10] (fun _ _ wr => ∃ i : Nat, i ≤ s.size ∧ wr.heap[w.heap.size]? = some (.stringIter s i) ∧ Aside0 (Below w.heap.size w wr) ∧ Aside0 (Lib.NoAny s.data.toList stops.data.toList i)) (fun _ _ wr => s.size - wr.iterPos w.heap.size)
  case atStart => exact ⟨0, Nat.zero_le _, World.iter_heap w s 0, ⟨(Below.refl _ _).alloc (Nat.le_refl _) _⟩, ⟨Lib.NoAny.zero _ _⟩⟩
  case round =>
    obtain ⟨i, hi, hk, HB, HN⟩ := hrel
    have hpos : wr.iterPos w.heap.size = i := by unfold World.iterPos; rw [hk]
    have HP := Lib.hid hpos
    have HK := Lib.hid hk
    clear hpos
    have hsz : w.heap.size < wr.heap.size := (Array.getElem?_eq_some_iff.1 hk).1
    clear hk
    by_cases hlt : i < s.size
    case neg =>
      have hnx := fun ty => run_next_end_at (P := Try.prog) wr w.heap.size s i ty HK.out hlt
      obtain rfl : i = s.size := by omega
      have hr := Lib.indexAny_none (s := s.data.toList) (chars := stops.data.toList) (by rw [← Lib.size_eq]; exact HN.out)
      have HR := Lib.hid hr
      clear hr
      go_wp2_with fail
      go_ret
      exact ⟨by rw [HR.out]; rfl, HB.out⟩
    · by_cases hlow : (s[i]'hlt).toNat < 128
      · have hnx := fun ty => run_next_ascii_at (P := Try.prog) wr w.heap.size s i ty HK.out hlt hlow
        have hxl : s.data.toList[i]? = some (s[i]'hlt) := Lib.data_getElem? s i hlt
        generalize s[i]'hlt = x at hlow hnx hxl
        have HX := Lib.hid hxl
        clear hxl
        have hcon := Lib.contains_iff_indexByte stops.data.toList x
        have hback : ((x.toNat : Int)).toNat.toUInt8 = x := by simp
        have hk2 := Lib.iterAt_heap wr w.heap.size s i (i + 1) HK.out
        have hb2 := Lib.below_iterAt HB.out (Nat.le_refl _) s (i + 1)
        have HK2 := Lib.hid hk2
        have HB2 := Aside0.mk hb2
        clear hk2 hb2
        cases hin : stops.data.toList.contains x
        · rw [hin] at hcon
          have hlt0 : ¬ ((0 : Int) ≤ Lib.indexByte stops.data.toList x) := of_decide_eq_false hcon.symm
          have hge : decide (Lib.indexByte stops.data.toList x ≥ 0) = false := decide_eq_false hlt0
          have HIN := Lib.hid hin
          clear hcon hlt0 hin
          go_wp2_with (first | (go_at_call 73; refine (Try.strings_IndexRune_ascii stops (x.toNat : Int) _ (by omega) (by omega)).mono ?_; rintro e w' ⟨rfl, hw⟩; rw [hw, hback]; clear hw w'))
          exact ⟨⟨i + 1, hlt, HK2.out, HB2, ⟨HN.out.succ HX.out HIN.out⟩⟩, by
            have e1 : (wr.iterAt w.heap.size s (i + 1)).iterPos w.heap.size = i + 1 := by unfold World.iterPos; rw [HK2.out]
            rw [e1, HP.out]; omega⟩
        · rw [hin] at hcon
          have hge0 : (0 : Int) ≤ Lib.indexByte stops.data.toList x := of_decide_eq_true hcon.symm
          have hge : decide (Lib.indexByte stops.data.toList x ≥ 0) = true := decide_eq_true hge0
          have HR := Lib.hid (Lib.indexAny_hit HN.out HX.out hin)
          clear hcon hge0 hin
          go_wp2_with (first | (go_at_call 73; refine (Try.strings_IndexRune_ascii stops (x.toNat : Int) _ (by omega) (by omega)).mono ?_; rintro e w' ⟨rfl, hw⟩; rw [hw, hback]; clear hw w'))
          go_ret
          exact ⟨by rw [HR.out]; rfl, HB2.out⟩
      · have hnx := fun ty => run_next_any_at (P := Try.prog) wr w.heap.size s i ty HK.out hlt
        obtain ⟨d1, d2, d3, d4, d5⟩ := decode_far s i hlt (by omega)
        have hk2 := Lib.iterAt_heap wr w.heap.size s i (i + (Utf8.decode s i).2) HK.out
        have hb2 := Lib.below_iterAt HB.out (Nat.le_refl _) s (i + (Utf8.decode s i).2)
        have hno := noAny_run (n := (Utf8.decode s i).2) HN.out (fun j h1 h2 b hb => far_out b (by
          have h3 := d5 j h1 h2
          have h4 : j < s.size := by omega
          rw [get_at s j h4] at h3
          rw [Lib.data_getElem? s j h4] at hb
          cases hb
          exact h3))
        clear d5
        generalize (Utf8.decode s i).1 = r at d1 d2 hnx
        generalize (Utf8.decode s i).2 = n at d3 d4 hnx hk2 hb2 hno
        have HK2 := Lib.hid hk2
        have HB2 := Aside0.mk hb2
        have HNO := Aside0.mk hno
        have hsz2 : w.heap.size < (wr.iterAt w.heap.size s (i + n)).heap.size := by rw [Lib.iterAt_size]; exact hsz
        have HD2 := Lib.hid d2
        clear hk2 hb2 hno d2
        go_wp2_with (first | (go_at_call 73; refine (rune_none r d1 HD2.out _).mono ?_; rintro e w' ⟨rfl, hb3⟩))
        have hk3 : w'.heap[w.heap.size]? = some (.stringIter s (i + n)) := (hb3.block w.heap.size hsz2).trans HK2.out
        exact ⟨⟨i + n, by omega, hk3, ⟨HB2.out.trans (hb3.mono HB2.out.size)⟩, HNO⟩, by
          have e1 : w'.iterPos w.heap.size = i + n := by unfold World.iterPos; rw [hk3]
          rw [e1, HP.out]; omega⟩
theorem any_f (s : ByteArray) (w : World) (hs : s.size < 4294967281) :
    Calls Try.prog 63 #[.string s, .string stops] w fun e w' => e = .returned (.int .i64 (Lib.indexAny s.data.toList stops.data.toList)) ∧ Below w.heap.size w w' := by
  by_cases h8 : s.size ≤ 8
  · exact any_short s w h8
  · refine (Try.strings_IndexAny_long (@zero_of_info Try.prog 96 (.agg (Array.replicate 256 (.bool false))) 256 (by kernel_rfl)).1 s stops w (by show 2 ≤ 4; omega) (by omega) hs (by show 4 < 4294967281; omega) ?_).mono ?_
    · intro j b hb
      have hl : ∀ c ∈ stops.data.toList, c.toNat < 128 := by decide
      exact hl b (List.mem_of_getElem? hb)
    · rintro e w' ⟨rfl, rfl⟩
      exact ⟨rfl, ((Below.refl _ _).alloc (Nat.le_refl _) _).alloc (by simp) _⟩
end Go.Proofs.Ytgopphglkjdcaaa.Idx
