-- Laid by wip/hprint.py: the kit's print of the translation, turned in places, beside contracts that this session wrote by hand; Lean checks all of it.
import Derived.Test.YtgopphglkjdcaaaPx0
import Derived.Test.YtgopphglkjdcaaaPx2
import Derived.Test.YtgopphglkjdcaaaPx4
namespace Go.Proofs.Ytgopphglkjdcaaa.Px
open Go.RowKit Go.Proofs.YtgopphglkjdcaaaW.PrintWords Go.Proofs.YtgopphglkjdcaaaW.PrintLast Go.Proofs.YtgopphglkjdcaaaW.PrintMore
attribute [local go_sem] max2_int min2_int max_two min_two max_three min_three max_four min_four   -- for this text's walks alone
set_option linter.unusedVariables false
set_option linter.unusedSimpArgs false

/-! ### quote_Check: function 22, by hand -/
def quote_Check.ps (k : Nat) : List S37 → Option Bool
  | [] => some true
  | p :: l => (quote_IsName.f p.f0).bind fun a => if a = false then some false else (utf_Check.f k p.f1).bind fun e => if e = 0 then quote_Check.ps k l else some false
def quote_Check.go (k : Nat) : List (List UInt8) → List S35 → Option Int
  | _, [] => some 0
  | seen, x :: l => (quote_IsName.f x.f0).bind fun a => if a = false then some 100 else if x.f0.data.toList ∈ seen then some 100 else if 4096 < x.f1.length then some 100 else
    (quote_Check.ps k x.f1).bind fun b => if b = false then some 100 else quote_Check.go k (x.f0.data.toList :: seen) l
def quote_Check.f (k : Nat) (l0 : List S35) : Option Int := if 4096 < l0.length then some 100 else quote_Check.go k [] l0
theorem quote_Check.ps_mono (k : Nat) : ∀ l, LeO (quote_Check.ps k l) (quote_Check.ps (k + 1) l)
  | [] => LeO.refl _
  | p :: l => by
    rw [quote_Check.ps, quote_Check.ps]
    refine LeO.bind (LeO.refl _) (fun _ => LeO.ite (LeO.refl _) (LeO.bind (utf_Check.mono _ _) (fun _ => LeO.ite (quote_Check.ps_mono k l) (LeO.refl _))))
theorem quote_Check.go_mono (k : Nat) : ∀ l seen, LeO (quote_Check.go k seen l) (quote_Check.go (k + 1) seen l)
  | [], _ => LeO.refl _
  | x :: l, seen => by
    rw [quote_Check.go, quote_Check.go]
    refine LeO.bind (LeO.refl _) (fun _ => LeO.ite (LeO.refl _) (LeO.ite (LeO.refl _) (LeO.ite (LeO.refl _) (LeO.bind (quote_Check.ps_mono k _) (fun _ => LeO.ite (LeO.refl _) (quote_Check.go_mono k l _))))))
theorem quote_Check.mono : ∀ l0 k, LeO (quote_Check.f k l0) (quote_Check.f (k + 1) l0) := by
  intro l0 k
  unfold quote_Check.f
  exact LeO.ite (LeO.refl _) (quote_Check.go_mono k l0 [])
theorem quote_Check.drop35 (l : List S35) (i : Nat) (h : i < l.length) : l.drop i = rd_T35 l (i : Int) :: l.drop (i + 1) := by
  rw [List.drop_eq_getElem_cons h]
  congr 1
  unfold rd_T35
  rw [Int.toNat_natCast, List.getD_eq_getElem?_getD, List.getElem?_eq_getElem h, Option.getD_some]
theorem quote_Check.drop37 (l : List S37) (i : Nat) (h : i < l.length) : l.drop i = rd_T37 l (i : Int) :: l.drop (i + 1) := by
  rw [List.drop_eq_getElem_cons h]
  congr 1
  unfold rd_T37
  rw [Int.toNat_natCast, List.getD_eq_getElem?_getD, List.getElem?_eq_getElem h, Option.getD_some]
set_option maxHeartbeats 4000000 in
set_option maxRecDepth 100000 in
theorem quote_Check.calls (k : Nat) (A0 : Option Addr) (c0 : Nat) (l0 : List S35) (r : Int) (w : World) (hr0 : Kd.C k35 w A0 l0.length l0) (hc0 : l0.length ≤ c0) (h : quote_Check.f k l0 = some r) :
    Calls Try.prog 22 #[.slice A0 l0.length c0] w fun e w' => e = .returned (.int .i64 r) ∧ Below w.heap.size w w' := by
  unfold quote_Check.f at h
  have HR0 := Aside0.mk hr0
  clear hr0
  by_cases hl : 4096 < l0.length
  · rw [if_pos hl] at h
    injection h with h
    subst h
    have d1 : decide ((l0.length : Int) > 4096) = true := decide_eq_true (by omega)
    have d2 : decide (4096 < l0.length) = true := decide_eq_true hl
    go_enter Try.func22, Try.ntmps22
    go_wp2_with fail
    go_ret
    exact ⟨rfl, Below.refl _ _⟩
  rw [if_neg hl] at h
  have H0 := Lib.hid h
  have d1 : decide ((l0.length : Int) > 4096) = false := decide_eq_false (by omega)
  have d2 : decide (4096 < l0.length) = false := decide_eq_false hl
  have hll : l0.length ≤ 4096 := by omega
  clear h hl
  have hmm := @run_makeMap Try.prog
  have HS0 := Aside0.mk (MapB.Seen.new w)
  have HB0 := Aside0.mk ((Below.refl w.heap.size w).alloc (Nat.le_refl _) (.map #[] 0))
  go_enter Try.func22, Try.ntmps22
  go_wp2_with fail
  clear hmm d1 d2
  go_loopw [14] (fun v wr => ∃ (i : Nat) (seen : List (List UInt8)), v = .int .i64 i ∧ i ≤ l0.length ∧ Hid (quote_Check.go k seen (l0.drop i) = some r) ∧ Aside0 (MapB.Seen wr w.heap.size i seen) ∧ Aside0 (Below w.heap.size w wr)) (fun v _ => match v with | .int _ n => l0.length - n.toNat | _ => 0)
  case atStart => exact ⟨0, [], rfl, Nat.zero_le _, H0, HS0, HB0⟩
  case round =>
    obtain ⟨i, seen, rfl, hi, HG, HS, HB⟩ := hrel
    clear H0 HS0 HB0
    have hgo := HG.out
    clear HG
    by_cases hlt : i < l0.length
    case neg =>
      obtain rfl : i = l0.length := by omega
      rw [List.drop_length, quote_Check.go] at hgo
      injection hgo with hgo
      subst hgo
      go_wp2_with fail
      go_ret
      exact ⟨rfl, HB.out⟩
    rw [quote_Check.drop35 l0 i hlt, quote_Check.go] at hgo
    obtain ⟨ad, A1, c1, rfl, e0, e1, hl1, hC1⟩ := at_T35 HR0.out (i : Int) (by omega) (by omega)
    simp only [Int.toNat_natCast] at e0 e1
    replace e0 := (HB.out.cell (World.block_lt_of_cell? w _ e0)).trans e0
    replace e1 := (HB.out.cell (World.block_lt_of_cell? w _ e1)).trans e1
    generalize rd_T35 l0 (i : Int) = x at hgo e0 e1 hl1 hC1
    obtain ⟨x0, x1⟩ := x
    simp only at hgo e0 e1 hl1 hC1
    have HC1 := Aside0.mk hC1
    clear hC1
    have hlt' : (i : Int) < (l0.length : Int) := by omega
    obtain ⟨a, ha, hgo⟩ := Option.bind_eq_some_iff.mp hgo
    have HA := Lib.hid ha
    have hx0 : x0.size ≤ 1073741824 := by
      unfold quote_IsName.f at ha
      by_cases hc : x0.size ≤ 1073741824
      · exact hc
      · rw [if_neg hc] at ha; cases ha
    clear ha
    have HG := Lib.hid hgo
    clear hgo
    go_upto_region 7 with (fail)
    have h51 := heap_alloc_new wr (Obj.cells #[.string x0, .slice A1 x1.length c1] 35)
    have S1 := Aside0.mk (HS.out.alloc (Obj.cells #[.string x0, .slice A1 x1.length c1] 35))
    have B1 := Aside0.mk (below_alloc HB.out (Obj.cells #[.string x0, .slice A1 x1.length c1] 35))
    have hw : w.heap.size ≤ wr.heap.size := HB.out.size
    have hne : w.heap.size ≠ wr.heap.size := Nat.ne_of_lt HS.out.lt
    clear HS HB e0 e1
    generalize wr.heap.size = q5 at h51 hne hw ⊢
    generalize wr.alloc (Obj.cells #[.string x0, .slice A1 x1.length c1] 35) = W1 at h51 S1 B1 ⊢
    have d0 := Lib.cell_of_heap h51 0
    have d1 := Lib.cell_of_heap h51 1
    have hgo := HG.out
    clear HG
    cases a with
    | false =>
      rw [if_pos rfl] at hgo
      injection hgo with hgo
      subst hgo
      go_wp2_with (first | (go_at_call 12; refine (quote_IsName.calls x0 false _ HA.out).mono ?_; rintro e W2 ⟨rfl, hb2⟩; have h52 := (hb2.block q5 (blk_lt h51)).trans h51; have d20 := Lib.cell_of_heap h52 0; have d21 := Lib.cell_of_heap h52 1; have hlk := (S1.out.below hb2).look x0 (by unfold maxLen; omega)))
      go_ret
      exact ⟨rfl, B1.out.trans (hb2.mono B1.out.size)⟩
    | true =>
      rw [if_neg (by decide)] at hgo
      by_cases hm : x0.data.toList ∈ seen
      · rw [if_pos hm] at hgo
        injection hgo with hgo
        subst hgo
        go_wp2_with (first | (go_at_call 12; refine (quote_IsName.calls x0 true _ HA.out).mono ?_; rintro e W2 ⟨rfl, hb2⟩; have h52 := (hb2.block q5 (blk_lt h51)).trans h51; have d20 := Lib.cell_of_heap h52 0; have d21 := Lib.cell_of_heap h52 1; have hlk := (S1.out.below hb2).look x0 (by unfold maxLen; omega); rw [decide_eq_true hm] at hlk))
        go_ret
        exact ⟨rfl, B1.out.trans (hb2.mono B1.out.size)⟩
      rw [if_neg hm] at hgo
      by_cases hlong : 4096 < x1.length
      · rw [if_pos hlong] at hgo
        injection hgo with hgo
        subst hgo
        have c1 : decide ((x1.length : Int) > 4096) = true := decide_eq_true (by omega)
        have c2 : decide (4096 < x1.length) = true := decide_eq_true hlong
        clear hlong
        go_wp2_with (first | (go_at_call 12; refine (quote_IsName.calls x0 true _ HA.out).mono ?_; rintro e W2 ⟨rfl, hb2⟩; have h52 := (hb2.block q5 (blk_lt h51)).trans h51; have d20 := Lib.cell_of_heap h52 0; have d21 := Lib.cell_of_heap h52 1; have hlk := (S1.out.below hb2).look x0 (by unfold maxLen; omega); rw [decide_eq_false hm] at hlk))
        go_ret
        exact ⟨rfl, B1.out.trans (hb2.mono B1.out.size)⟩
      rw [if_neg hlong] at hgo
      have c1 : decide ((x1.length : Int) > 4096) = false := decide_eq_false (by omega)
      have c2 : decide (4096 < x1.length) = false := decide_eq_false hlong
      obtain ⟨b, hb, hgo⟩ := Option.bind_eq_some_iff.mp hgo
      have HPs := Lib.hid hb
      have HG := Lib.hid hgo
      have hxl : x1.length ≤ 4096 := by omega
      clear hb hgo hlong
      go_upto_region 9 with (first | (go_at_call 12; refine (quote_IsName.calls x0 true _ HA.out).mono ?_; rintro e W2 ⟨rfl, hb2⟩; have h52 := (hb2.block q5 (blk_lt h51)).trans h51; have d20 := Lib.cell_of_heap h52 0; have d21 := Lib.cell_of_heap h52 1; have hlk := (S1.out.below hb2).look x0 (by unfold maxLen; omega); rw [decide_eq_false hm] at hlk; have B2 := Aside0.mk (B1.out.trans (hb2.mono B1.out.size)); have S2 := Aside0.mk (S1.out.below hb2)))
      obtain ⟨W3, hr3, hS3, hg3⟩ := S2.out.put x0 (by unfold maxLen; omega) (by unfold maxLen; omega)
      clear hlk
      go_upto_region 10 with (fail)
      have h53 := (hg3.block q5 (blk_lt h52) (by intro z; injection z with z; exact hne z.symm)).trans h52
      have hB3 := B2.out.grown hg3 B2.out.size (fun j hj => by cases hj; exact Nat.le_refl _)
      have S3 := Aside0.mk hS3
      have B3 := Aside0.mk hB3
      clear hr3 hS3 hg3 hB3 d20 d21 h52 hb2 d0 d1 h51 S1 B1 S2 B2
      have d1 := Lib.cell_of_heap h53 1
      go_wp2_with fail
      clear d1 h53
      go_loopw [40] (fun v wx => ∃ (j : Nat), v = .int .i64 j ∧ j ≤ x1.length ∧ Hid (quote_Check.ps k (x1.drop j) = some b) ∧ Aside0 (MapB.Seen wx w.heap.size (i + 1) (x0.data.toList :: seen)) ∧ Aside0 (Below w.heap.size w wx)) (fun v _ => match v with | .int _ n => x1.length - n.toNat | _ => 0)
      case atStart => exact ⟨0, rfl, Nat.zero_le _, HPs, S3, B3⟩
      case round =>
        obtain ⟨j, rfl, hj, HQ, HS, HB⟩ := hrel
        clear S3 B3 HPs
        have hps := HQ.out
        clear HQ
        by_cases hjl : j < x1.length
        case neg =>
          obtain rfl : j = x1.length := by omega
          rw [List.drop_length, quote_Check.ps] at hps
          injection hps with hps
          subst hps
          have hgo := HG.out
          rw [if_neg (by decide)] at hgo
          have HG2 := Lib.hid hgo
          clear HG hgo
          go_wp2_with fail
          exact ⟨⟨i + 1, _, by push_cast; rfl, hlt, HG2, HS, HB⟩, by show l0.length - (((i : Int) + 1)).toNat < l0.length - ((i : Int)).toNat; omega⟩
        rw [quote_Check.drop37 x1 j hjl, quote_Check.ps] at hps
        obtain ⟨ad2, rfl, f0, f1⟩ := at_T37 HC1.out (j : Int) (by omega) (by omega)
        simp only [Int.toNat_natCast] at f0 f1
        replace f0 := (HB.out.cell (World.block_lt_of_cell? w _ f0)).trans f0
        replace f1 := (HB.out.cell (World.block_lt_of_cell? w _ f1)).trans f1
        generalize rd_T37 x1 (j : Int) = p at hps f0 f1
        obtain ⟨p0, p1⟩ := p
        simp only at hps f0 f1
        have hjl' : (j : Int) < (x1.length : Int) := by omega
        obtain ⟨a2, ha2, hps⟩ := Option.bind_eq_some_iff.mp hps
        have HA2 := Lib.hid ha2
        have HPS := Lib.hid hps
        clear ha2 hps
        go_upto_region 13 with (fail)
        have g51 := heap_alloc_new wr (Obj.cells #[.string p0, .string p1] 37)
        have S1 := Aside0.mk (HS.out.alloc (Obj.cells #[.string p0, .string p1] 37))
        have B1 := Aside0.mk (below_alloc HB.out (Obj.cells #[.string p0, .string p1] 37))
        clear HS HB f0 f1
        generalize wr.heap.size = q7 at g51 ⊢
        generalize wr.alloc (Obj.cells #[.string p0, .string p1] 37) = W1 at g51 S1 B1 ⊢
        have d0 := Lib.cell_of_heap g51 0
        have d1 := Lib.cell_of_heap g51 1
        have hps := HPS.out
        clear HPS
        cases a2 with
        | false =>
          rw [if_pos rfl] at hps
          injection hps with hps
          subst hps
          have hgo := HG.out
          rw [if_pos rfl] at hgo
          injection hgo with hgo
          subst hgo
          go_wp2_with (first | (go_at_call 12; refine (quote_IsName.calls p0 false _ HA2.out).mono ?_; rintro e W2 ⟨rfl, hb2⟩; have h52 := (hb2.block q7 (blk_lt g51)).trans g51; have d20 := Lib.cell_of_heap h52 0; have d21 := Lib.cell_of_heap h52 1))
          go_ret
          exact ⟨rfl, B1.out.trans (hb2.mono B1.out.size)⟩
        | true =>
          rw [if_neg (by decide)] at hps
          obtain ⟨e, he, hps⟩ := Option.bind_eq_some_iff.mp hps
          have HE := Lib.hid he
          clear he
          by_cases e0 : e = 0
          · rw [if_pos e0] at hps
            subst e0
            have HQ := Lib.hid hps
            clear hps
            go_wp2_with (first | (go_at_call 12; refine (quote_IsName.calls p0 true _ HA2.out).mono ?_; rintro e W2 ⟨rfl, hb2⟩; have h52 := (hb2.block q7 (blk_lt g51)).trans g51; have d20 := Lib.cell_of_heap h52 0; have d21 := Lib.cell_of_heap h52 1) | (go_at_call 28; refine (utf_Check.calls k p1 0 _ HE.out).mono ?_; rintro e W3 ⟨rfl, hb3⟩))
            have S3 := Aside0.mk ((S1.out.below hb2).below hb3)
            have hB2 := B1.out.trans (hb2.mono B1.out.size)
            have B3 := Aside0.mk (hB2.trans (hb3.mono hB2.size))
            exact ⟨⟨j + 1, by push_cast; rfl, hjl, HQ, S3, B3⟩, by show x1.length - (((j : Int) + 1)).toNat < x1.length - ((j : Int)).toNat; omega⟩
          · rw [if_neg e0] at hps
            injection hps with hps
            subst hps
            have hgo := HG.out
            rw [if_pos rfl] at hgo
            injection hgo with hgo
            subst hgo
            have e1 : (e != 0) = true := bne_iff_ne.mpr e0
            have e2 : (e == 0) = false := beq_eq_false_iff_ne.mpr e0
            clear e0
            go_wp2_with (first | (go_at_call 12; refine (quote_IsName.calls p0 true _ HA2.out).mono ?_; rintro e_ W2 ⟨rfl, hb2⟩; have h52 := (hb2.block q7 (blk_lt g51)).trans g51; have d20 := Lib.cell_of_heap h52 0; have d21 := Lib.cell_of_heap h52 1) | (go_at_call 28; refine (utf_Check.calls k p1 e _ HE.out).mono ?_; rintro e_ W3 ⟨rfl, hb3⟩))
            go_ret
            have hB2 := B1.out.trans (hb2.mono B1.out.size)
            exact ⟨rfl, hB2.trans (hb3.mono hB2.size)⟩

/-! ### stringslite_HasPrefix: function 40 -/
def stringslite_HasPrefix.f (a0 : ByteArray) (a1 : ByteArray) : Option (Bool) := if (a0.size : Int) ≥ (a1.size : Int) then (if 0 ≤ (a1.size : Int) then (if (a1.size : Int) ≤ (a0.size : Int) then (some ((a0.extract 0 ((a1.size : Int) : Int).toNat).toList == a1.toList)) else (none)) else (none)) else (some false)
set_option maxHeartbeats 8000000 in
set_option maxRecDepth 100000 in
theorem stringslite_HasPrefix.calls (a0 : ByteArray) (a1 : ByteArray) (r : Bool) (w : World) (h : stringslite_HasPrefix.f a0 a1 = some r) :
    Calls Try.prog 40 #[.string a0, .string a1] w fun e w' => e = .returned (.bool r) ∧ Drawn0 w w' := by
  have H : (if (a0.size : Int) ≥ (a1.size : Int) then (if 0 ≤ (a1.size : Int) then (if (a1.size : Int) ≤ (a0.size : Int) then (some ((a0.extract 0 ((a1.size : Int) : Int).toNat).toList == a1.toList)) else (none)) else (none)) else (some false)) = some r := h
  clear h
  by_cases c3 : (a0.size : Int) ≥ (a1.size : Int)
  · rw [if_pos c3] at H
    have c3b0 : decide ((a1.size : Int) ≤ (a0.size : Int)) = true := decide_eq_true c3
    have c3b1 : decide (a1.size ≤ a0.size) = true := decide_eq_true (Int.ofNat_le.mp c3)
    clear c3
    by_cases c4 : 0 ≤ (a1.size : Int)
    · rw [if_pos c4] at H
      have c4b0 := eq_true c4
      have c4b1 : decide (0 ≤ (a1.size : Int)) = true := decide_eq_true c4
      clear c4
      by_cases c5 : (a1.size : Int) ≤ (a0.size : Int)
      · rw [if_pos c5] at H
        have c5b0 := eq_true c5
        have c5b1 : decide ((a1.size : Int) ≤ (a0.size : Int)) = true := decide_eq_true c5
        clear c5
        obtain rfl := Option.some.inj H
        go_enter Try.func40, Try.ntmps40
        go_wp2
        go_ret
        exact ⟨by first | rfl | (simp; done) | (simp [*]; done) | (simp [IntKind.wrap_u8, IntKind.wrap_i64, wrap64]; done) | (simp only [IntKind.wrap_u8]; rfl), by repeat (first | exact Drawn0.refl _ | apply Drawn0.step)⟩
      · rw [if_neg c5] at H
        exact absurd H (by simp)
    · rw [if_neg c4] at H
      exact absurd H (by simp)
  · rw [if_neg c3] at H
    have c3b0 : decide ((a1.size : Int) ≤ (a0.size : Int)) = false := decide_eq_false c3
    have c3b1 : decide (a1.size ≤ a0.size) = false := decide_eq_false (fun h => c3 (Int.ofNat_le.mpr h))
    clear c3
    obtain rfl := Option.some.inj H
    go_enter Try.func40, Try.ntmps40
    go_wp2
    go_ret
    exact ⟨by first | rfl | (simp; done) | (simp [*]; done) | (simp [IntKind.wrap_u8, IntKind.wrap_i64, wrap64]; done) | (simp only [IntKind.wrap_u8]; rfl), by repeat (first | exact Drawn0.refl _ | apply Drawn0.step)⟩

/-! ### stringslite_CutPrefix: function 53 -/
def stringslite_CutPrefix.f (a0 : ByteArray) (a1 : ByteArray) : Option (ByteArray × Bool) := (stringslite_HasPrefix.f a0 a1).bind fun t115 => (if t115 = true then (if 0 ≤ (a1.size : Int) then (if (a1.size : Int) ≤ (a0.size : Int) then (some (a0.extract ((a1.size : Int) : Int).toNat a0.size, true)) else (none)) else (none)) else (some (a0, false)))
set_option maxHeartbeats 8000000 in
set_option maxRecDepth 100000 in
theorem stringslite_CutPrefix.calls (a0 : ByteArray) (a1 : ByteArray) (r1 : ByteArray) (r2 : Bool) (w : World) (h : stringslite_CutPrefix.f a0 a1 = some (r1, r2)) :
    Calls Try.prog 53 #[.string a0, .string a1] w fun e w' => e = .returned (.tuple #[.string r1, .bool r2]) ∧ Drawn0 w w' := by
  have H : ((stringslite_HasPrefix.f a0 a1).bind fun t115 => (if t115 = true then (if 0 ≤ (a1.size : Int) then (if (a1.size : Int) ≤ (a0.size : Int) then (some (a0.extract ((a1.size : Int) : Int).toNat a0.size, true)) else (none)) else (none)) else (some (a0, false)))) = some (r1, r2) := h
  clear h
  replace H := Option.bind_eq_some_iff.mp H
  obtain ⟨t115, A30, H⟩ := H
  replace H : (if t115 = true then (if 0 ≤ (a1.size : Int) then (if (a1.size : Int) ≤ (a0.size : Int) then (some (a0.extract ((a1.size : Int) : Int).toNat a0.size, true)) else (none)) else (none)) else (some (a0, false))) = some (r1, r2) := H
  have A3 := Aside0.mk A30
  clear A30
  by_cases c4 : t115 = true
  · subst c4
    have H1 : (if 0 ≤ (a1.size : Int) then (if (a1.size : Int) ≤ (a0.size : Int) then (some (a0.extract ((a1.size : Int) : Int).toNat a0.size, true)) else (none)) else (none)) = some (r1, r2) := by rw [if_pos rfl] at H; exact H
    clear H
    have H := H1
    clear H1
    by_cases c5 : 0 ≤ (a1.size : Int)
    · rw [if_pos c5] at H
      have c5b0 := eq_true c5
      have c5b1 : decide (0 ≤ (a1.size : Int)) = true := decide_eq_true c5
      clear c5
      by_cases c6 : (a1.size : Int) ≤ (a0.size : Int)
      · rw [if_pos c6] at H
        have c6b0 := eq_true c6
        have c6b1 : decide ((a1.size : Int) ≤ (a0.size : Int)) = true := decide_eq_true c6
        clear c6
        simp only [Option.some.injEq, Prod.mk.injEq] at H
        obtain ⟨rfl, rfl⟩ := H
        go_enter Try.func53, Try.ntmps53
        go_wp2_with (first | ((with_reducible refine gate_callee (f := 40) rfl ?_); refine goesL_ (some 8) rfl rfl Try.func40 (by kernel_rfl) rfl #[.string a0, .string a1] rfl (by (try simp only [List.map_toArray, List.map_cons, List.map_nil]); first | done | rfl | (simp only [List.length_drop, List.length_take]; rfl)) ?_; (with_reducible refine (stringslite_HasPrefix.calls a0 a1 true _ A3.out).mono ?_); rintro e w' ⟨rfl, ⟨nd, rfl⟩⟩; refine ⟨_, rfl, ?_⟩))
        go_ret2
        exact ⟨by first | rfl | (simp; done) | (simp [*]; done) | (simp [IntKind.wrap_u8, IntKind.wrap_i64, wrap64]; done) | (simp only [IntKind.wrap_u8]; rfl), by repeat (first | exact Drawn0.refl _ | apply Drawn0.step)⟩
      · rw [if_neg c6] at H
        exact absurd H (by simp)
    · rw [if_neg c5] at H
      exact absurd H (by simp)
  · replace c4 := Bool.eq_false_iff.mpr c4
    subst c4
    have H1 : (some (a0, false)) = some (r1, r2) := by rw [if_neg (show ¬ (false = true) by decide)] at H; exact H
    clear H
    have H := H1
    clear H1
    simp only [Option.some.injEq, Prod.mk.injEq] at H
    obtain ⟨rfl, rfl⟩ := H
    go_enter Try.func53, Try.ntmps53
    go_wp2_with (first | ((with_reducible refine gate_callee (f := 40) rfl ?_); refine goesL_ (some 8) rfl rfl Try.func40 (by kernel_rfl) rfl #[.string a0, .string a1] rfl (by (try simp only [List.map_toArray, List.map_cons, List.map_nil]); first | done | rfl | (simp only [List.length_drop, List.length_take]; rfl)) ?_; (with_reducible refine (stringslite_HasPrefix.calls a0 a1 false _ A3.out).mono ?_); rintro e w' ⟨rfl, ⟨nd, rfl⟩⟩; refine ⟨_, rfl, ?_⟩))
    go_ret2
    exact ⟨by first | rfl | (simp; done) | (simp [*]; done) | (simp [IntKind.wrap_u8, IntKind.wrap_i64, wrap64]; done) | (simp only [IntKind.wrap_u8]; rfl), by repeat (first | exact Drawn0.refl _ | apply Drawn0.step)⟩

end Go.Proofs.Ytgopphglkjdcaaa.Px
