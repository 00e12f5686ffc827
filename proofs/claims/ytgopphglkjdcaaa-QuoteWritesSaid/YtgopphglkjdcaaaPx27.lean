-- Laid by wip/hprint.py: the kit's print of the translation, turned in places, beside contracts that this session wrote by hand; Lean checks all of it.
import Derived.Test.YtgopphglkjdcaaaPx0
import Derived.Test.YtgopphglkjdcaaaPx5
import Derived.Test.YtgopphglkjdcaaaPx23
namespace Go.Proofs.Ytgopphglkjdcaaa.Px
open Go.RowKit Go.Proofs.YtgopphglkjdcaaaW.PrintWords Go.Proofs.YtgopphglkjdcaaaW.PrintLast Go.Proofs.YtgopphglkjdcaaaW.PrintMore
attribute [local go_sem] max2_int min2_int max_two min_two max_three min_three max_four min_four   -- for this text's walks alone
set_option linter.unusedVariables false
set_option linter.unusedSimpArgs false

/-! ### quote_Print: function 19, by hand -/
def quote_Print.par (p : S37) : Option (ByteArray × ByteArray) := if p.f0.size ≤ 1073741824 then (quote_Escape.f p.f1).bind fun e => if e.size ≤ 1073741824 then some (e, (⟨#[32]⟩ ++ p.f0 ++ ⟨#[61, 34]⟩ ++ e ++ ⟨#[34]⟩ : ByteArray)) else none else none
def quote_Print.ps : List S37 → List UInt8 → Option (List UInt8)
  | [], acc => some acc
  | p :: l, acc => (quote_Print.par p).bind fun b => if acc.length ≤ 35184372088832 then quote_Print.ps l (acc ++ b.2.data.toList) else none
def quote_Print.go : List S35 → List UInt8 → Option (ByteArray × Int)
  | [], acc => some (⟨acc.toArray⟩, 0)
  | x :: l, acc => if x.f0.size ≤ 1073741824 ∧ acc.length ≤ 35184372088832 ∧ x.f1.length ≤ 1073741824 then (quote_Print.ps x.f1 (acc ++ (⟨#[91]⟩ ++ x.f0 : ByteArray).data.toList)).bind fun b =>
      if b.length ≤ 35184372088832 then (if 65536 < b.length + 1 then some (⟨#[]⟩, 2) else quote_Print.go l (b ++ [93])) else none else none
def quote_Print.f (k : Nat) (l : List S35) : Option (ByteArray × Int) := (quote_Check.f k l).bind fun e => if e = 0 then (if (l.length : Int) = 0 then some (⟨#[45]⟩, 0) else if l.length ≤ 1073741824 then quote_Print.go l [] else none) else some (⟨#[]⟩, e)
theorem quote_Print.mono : ∀ l k, LeO (quote_Print.f k l) (quote_Print.f (k + 1) l) := by
  intro l k
  unfold quote_Print.f
  exact LeO.bind (quote_Check.mono _ _) (fun _ => LeO.refl _)
theorem quote_Print.cell {w w' : World} {q i : Nat} (h : w'.heap[q]? = w.heap[q]?) : w'.cell? ⟨q, i, none⟩ = w.cell? ⟨q, i, none⟩ := by
  simp only [World.cell?, h]
set_option maxHeartbeats 4000000 in
set_option maxRecDepth 100000 in
theorem quote_Print.calls (k : Nat) (A0 : Option Addr) (c0 : Nat) (l0 : List S35) (r1 : ByteArray) (r2 : Int) (w : World) (hr0 : Kd.C k35 w A0 l0.length l0) (hc0 : l0.length ≤ c0) (h : quote_Print.f k l0 = some (r1, r2)) :
    Calls Try.prog 19 #[.slice A0 l0.length c0] w fun e w' => e = .returned (.tuple #[.string r1, .int .i64 r2]) ∧ Below w.heap.size w w' := by
  unfold quote_Print.f at h
  obtain ⟨e, he, h⟩ := Option.bind_eq_some_iff.mp h
  have HE := Lib.hid he
  have HR0 := Aside0.mk hr0
  clear he hr0
  by_cases h0 : e = 0
  case neg =>
    rw [if_neg h0] at h
    simp only [Option.some.injEq, Prod.mk.injEq] at h
    obtain ⟨rfl, rfl⟩ := h
    have d2 : (e != 0) = true := bne_iff_ne.mpr h0
    have d3 : (e == 0) = false := beq_eq_false_iff_ne.mpr h0
    go_enter Try.func19, Try.ntmps19
    go_wp2_with fail
    refine (quote_Check.calls k A0 c0 l0 e _ HR0.out hc0 HE.out).mono ?_
    rintro e W2 ⟨rfl, hb2⟩
    go_wp2_with fail
    go_ret2
    exact ⟨rfl, hb2⟩
  rw [if_pos h0] at h
  subst h0
  by_cases hl : (l0.length : Int) = 0
  · rw [if_pos hl] at h
    simp only [Option.some.injEq, Prod.mk.injEq] at h
    obtain ⟨rfl, rfl⟩ := h
    have d1 : ((l0.length : Int) == 0) = true := beq_iff_eq.mpr hl
    clear hl
    go_enter Try.func19, Try.ntmps19
    go_wp2_with fail
    refine (quote_Check.calls k A0 c0 l0 0 _ HR0.out hc0 HE.out).mono ?_
    rintro e W2 ⟨rfl, hb2⟩
    go_wp2_with fail
    go_ret2
    exact ⟨rfl, hb2⟩
  rw [if_neg hl] at h
  have d1 : ((l0.length : Int) == 0) = false := beq_eq_false_iff_ne.mpr hl
  by_cases hL : l0.length ≤ 1073741824
  case neg => rw [if_neg hL] at h; cases h
  rw [if_pos hL] at h
  have hne0 : ¬ (l0 = []) := fun h_ => hl (by rw [h_]; rfl)
  have H0 := Lib.hid h
  clear h hl
  go_enter Try.func19, Try.ntmps19
  go_wp2_with fail
  refine (quote_Check.calls k A0 c0 l0 0 _ HR0.out hc0 HE.out).mono ?_
  rintro e W2 ⟨rfl, hb2⟩
  have HI0 := Aside0.mk (Lib.fresh_isBuilder Bld.T 5 W2)
  have HB0 := Aside0.mk (below_alloc hb2 (.cells #[.pointer none, .slice none 0 0] 59))
  have hq := hb2.size
  clear HE hb2
  go_wp2_with fail
  generalize W2.heap.size = B at HI0 hq ⊢
  generalize W2.alloc (.cells #[.pointer none, .slice none 0 0] 59) = W3 at HI0 HB0 ⊢
  go_loopw [20] (fun v wr => ∃ (i : Nat) (acc : List UInt8), v = .int .i64 i ∧ i ≤ l0.length ∧ Hid (quote_Print.go (l0.drop i) acc = some (r1, r2)) ∧ Aside0 (Lib.IsBuilder Bld.T 5 B B (Lib.byteCells acc) wr) ∧ Aside0 (Below w.heap.size w wr)) (fun v _ => match v with | .int _ n => l0.length - n.toNat | _ => 0)
  case atStart => exact ⟨0, [], rfl, Nat.zero_le _, H0, HI0, HB0⟩
  case round =>
    obtain ⟨i, acc, rfl, hi, HG, HI, HB⟩ := hrel
    clear H0 HI0 HB0
    have hgo := HG.out
    clear HG
    by_cases hlt : i < l0.length
    case neg =>
      obtain rfl : i = l0.length := by omega
      rw [List.drop_length, quote_Print.go] at hgo
      injection hgo with hgo
      injection hgo with hg1 hg2
      subst hg1
      subst hg2
      have hqw : B ≤ wr.heap.size := by have h1 := HB.out.size; have h2 := HI.out.elim (fun x => x.lt) (fun x => x.lt); omega
      go_wp2_with fail
      refine (Try.Builder_String_any B B acc _ HI.out hqw).mono ?_
      rintro e w6 ⟨rfl, hb6⟩
      have hb7 := HB.out.trans (hb6.mono hq)
      go_wp2_with fail
      go_ret2
      exact ⟨rfl, hb7⟩
    rw [quote_Check.drop35 l0 i hlt, quote_Print.go] at hgo
    obtain ⟨ad, A1, c1, rfl, e0, e1, hl1, hC1⟩ := at_T35 HR0.out (i : Int) (by omega) (by omega)
    simp only [Int.toNat_natCast] at e0 e1
    replace e0 := (HB.out.cell (World.block_lt_of_cell? w _ e0)).trans e0
    replace e1 := (HB.out.cell (World.block_lt_of_cell? w _ e1)).trans e1
    generalize rd_T35 l0 (i : Int) = x at hgo e0 e1 hl1 hC1
    obtain ⟨x0, x1⟩ := x
    simp only at hgo e0 e1 hl1 hC1
    have HC1 := Aside0.mk hC1
    clear hC1
    by_cases hsz : x0.size ≤ 1073741824 ∧ acc.length ≤ 35184372088832 ∧ x1.length ≤ 1073741824
    case neg => rw [if_neg hsz] at hgo; cases hgo
    rw [if_pos hsz] at hgo
    obtain ⟨b, hps, hgo⟩ := Option.bind_eq_some_iff.mp hgo
    by_cases hbl : b.length ≤ 35184372088832
    case neg => rw [if_neg hbl] at hgo; cases hgo
    rw [if_pos hbl] at hgo
    obtain ⟨y, hy⟩ : ∃ y : ByteArray, y = ⟨#[91]⟩ ++ x0 := ⟨_, rfl⟩
    rw [← hy] at hps
    have hcat : y.size = 1 + x0.size := by rw [hy, ByteArray.size_append]; rfl
    have HG := Lib.hid hgo
    have HP := Lib.hid hps
    have HBL := Lib.hid hbl
    obtain ⟨hs1, hs2, hs3⟩ := hsz
    clear hgo hps hbl
    have hlt' : (i : Int) < (l0.length : Int) := by omega
    go_upto_region 10 with (fail)
    have h51 := heap_alloc_new wr (Obj.cells #[.string x0, .slice A1 x1.length c1] 35)
    have I1 := Aside0.mk (Bld.alloc HI.out (Obj.cells #[.string x0, .slice A1 x1.length c1] 35))
    have P1 := Aside0.mk (Bld.apart_new HI.out (Obj.cells #[.string x0, .slice A1 x1.length c1] 35))
    have B1 := Aside0.mk (below_alloc HB.out (Obj.cells #[.string x0, .slice A1 x1.length c1] 35))
    have hw1 : B ≤ (wr.alloc (Obj.cells #[.string x0, .slice A1 x1.length c1] 35)).heap.size := Nat.le_of_lt (I1.out.elim (fun x => x.lt) (fun x => x.lt))
    clear HI HB e0 e1
    generalize wr.heap.size = q7 at h51 P1 ⊢
    generalize wr.alloc (Obj.cells #[.string x0, .slice A1 x1.length c1] 35) = W4 at h51 I1 P1 B1 hw1 ⊢
    have d0 := Lib.cell_of_heap h51 0
    have d1 := Lib.cell_of_heap h51 1
    go_wp2_with fail
    rw [← hy]
    refine (Bld.write2 B B (Lib.byteCells acc) y _ I1.out (by rw [Lib.byteCells_length]; omega) hw1).mono ?_
    rintro e W5 ⟨rfl, hi6, hb6, hst6⟩
    have hA6 := hst6.2 q7 P1.out
    have h52 := hA6.2.trans h51
    have d2 := Lib.cell_of_heap h52 0
    have d3 := Lib.cell_of_heap h52 1
    have I2 := Aside0.mk (show Lib.IsBuilder Bld.T 5 B B (Lib.byteCells (acc ++ y.data.toList)) W5 by rw [Lib.byteCells_append]; exact hi6)
    have B2 := Aside0.mk (B1.out.trans (hb6.mono hq))
    clear d0 d1 I1 P1 B1 hi6 hb6 hst6 hA6 h51
    go_wp2_with fail
    clear d2 d3 h52 h
    go_loopw [31] (fun v wr => ∃ (j : Nat) (acc2 : List UInt8), v = .int .i64 j ∧ j ≤ x1.length ∧ Hid (quote_Print.ps (x1.drop j) acc2 = some b) ∧ Aside0 (Lib.IsBuilder Bld.T 5 B B (Lib.byteCells acc2) wr) ∧ Aside0 (Below w.heap.size w wr)) (fun v _ => match v with | .int _ n => x1.length - n.toNat | _ => 0)
    case atStart => exact ⟨0, _, rfl, Nat.zero_le _, HP, I2, B2⟩
    case round =>
      obtain ⟨j, acc2, rfl, hj, HQ, HI, HB⟩ := hrel
      clear HP I2 B2
      have hq2 := HQ.out
      clear HQ
      have hqw : B ≤ _ := Nat.le_of_lt (HI.out.elim (fun x => x.lt) (fun x => x.lt))
      by_cases hlt2 : j < x1.length
      case neg =>
        obtain rfl : j = x1.length := by omega
        rw [List.drop_length, quote_Print.ps] at hq2
        injection hq2 with hq2
        subst hq2
        go_wp2_with fail
        refine (Bld.write2 B B (Lib.byteCells acc2) ⟨#[93]⟩ _ HI.out (by rw [Lib.byteCells_length]; have := HBL.out; show acc2.length + 1 ≤ _; omega) hqw).mono ?_
        rintro e W6 ⟨rfl, hi6, hb6, hst6⟩
        have I3 := Aside0.mk (show Lib.IsBuilder Bld.T 5 B B (Lib.byteCells (acc2 ++ [93])) W6 by rw [Lib.byteCells_append]; exact hi6)
        have B3 := Aside0.mk (HB.out.trans (hb6.mono hq))
        clear hi6 hb6 hst6 HI HB
        have hgo := HG.out
        clear HG
        by_cases hlong : 65536 < acc2.length + 1
        · rw [if_pos hlong] at hgo
          simp only [Option.some.injEq, Prod.mk.injEq] at hgo
          obtain ⟨rfl, rfl⟩ := hgo
          have c1 : decide (((Lib.byteCells (acc2 ++ [93])).length : Int) > 65536) = true := decide_eq_true (by rw [Lib.byteCells_length, List.length_append, List.length_cons, List.length_nil]; omega)
          have c2 : decide (65536 < (Lib.byteCells (acc2 ++ [93])).length) = true := decide_eq_true (by rw [Lib.byteCells_length, List.length_append, List.length_cons, List.length_nil]; omega)
          go_wp2_with fail
          refine (Try.Builder_Len B B (Lib.byteCells (acc2 ++ [93])) _ I3.out).mono ?_
          rintro e W7 ⟨rfl, hw7⟩
          rw [hw7]
          go_wp2_with fail
          go_ret2
          exact ⟨rfl, B3.out⟩
        · rw [if_neg hlong] at hgo
          have HG := Lib.hid hgo
          clear hgo
          have c1 : decide (((Lib.byteCells (acc2 ++ [93])).length : Int) > 65536) = false := decide_eq_false (by rw [Lib.byteCells_length, List.length_append, List.length_cons, List.length_nil]; omega)
          have c2 : decide (65536 < (Lib.byteCells (acc2 ++ [93])).length) = false := decide_eq_false (by rw [Lib.byteCells_length, List.length_append, List.length_cons, List.length_nil]; omega)
          go_wp2_with fail
          refine (Try.Builder_Len B B (Lib.byteCells (acc2 ++ [93])) _ I3.out).mono ?_
          rintro e W7 ⟨rfl, hw7⟩
          rw [hw7]
          go_wp2_with fail
          exact ⟨⟨i + 1, _, by push_cast; rfl, hlt, HG, I3, B3⟩, by show l0.length - (((i : Int) + 1)).toNat < l0.length - ((i : Int)).toNat; omega⟩
      rw [quote_Check.drop37 x1 j hlt2, quote_Print.ps] at hq2
      obtain ⟨ad2, rfl, f0, f1⟩ := at_T37 HC1.out (j : Int) (by omega) (by omega)
      simp only [Int.toNat_natCast] at f0 f1
      replace f0 := (HB.out.cell (World.block_lt_of_cell? w _ f0)).trans f0
      replace f1 := (HB.out.cell (World.block_lt_of_cell? w _ f1)).trans f1
      generalize rd_T37 x1 (j : Int) = p at hq2 f0 f1
      obtain ⟨p0, p1⟩ := p
      simp only at f0 f1
      obtain ⟨⟨e, s⟩, hp, hq2⟩ := Option.bind_eq_some_iff.mp hq2
      simp only at hq2
      unfold quote_Print.par at hp
      simp only at hp
      by_cases hp0 : p0.size ≤ 1073741824
      case neg => rw [if_neg hp0] at hp; cases hp
      rw [if_pos hp0] at hp
      obtain ⟨e1, he, hp⟩ := Option.bind_eq_some_iff.mp hp
      by_cases hes : e1.size ≤ 1073741824
      case neg => rw [if_neg hes] at hp; cases hp
      rw [if_pos hes] at hp
      injection hp with hp
      injection hp with hp1 hp2
      subst hp1
      by_cases hal : acc2.length ≤ 35184372088832
      case neg => rw [if_neg hal] at hq2; cases hq2
      rw [if_pos hal] at hq2
      have HQ := Lib.hid hq2
      have HE := Lib.hid he
      clear hq2 he
      have hz1 : (⟨#[32]⟩ ++ p0 : ByteArray).size = 1 + p0.size := by rw [ByteArray.size_append]; rfl
      have hz2 : (⟨#[32]⟩ ++ p0 ++ ⟨#[61, 34]⟩ : ByteArray).size = 1 + p0.size + 2 := by rw [ByteArray.size_append, hz1]; rfl
      have hz3 : (⟨#[32]⟩ ++ p0 ++ ⟨#[61, 34]⟩ ++ e1 : ByteArray).size = 1 + p0.size + 2 + e1.size := by rw [ByteArray.size_append, hz2]
      have hz4 : s.size = 1 + p0.size + 2 + e1.size + 1 := by rw [← hp2, ByteArray.size_append, hz3]; rfl
      have hlt2' : (j : Int) < (x1.length : Int) := by omega
      go_upto_region 14 with (fail)
      have h51 := heap_alloc_new wr (Obj.cells #[.string p0, .string p1] 37)
      have I1 := Aside0.mk (Bld.alloc HI.out (Obj.cells #[.string p0, .string p1] 37))
      have P1 := Aside0.mk (Bld.apart_new HI.out (Obj.cells #[.string p0, .string p1] 37))
      have B1 := Aside0.mk (below_alloc HB.out (Obj.cells #[.string p0, .string p1] 37))
      have hw1 : B ≤ (wr.alloc (Obj.cells #[.string p0, .string p1] 37)).heap.size := Nat.le_of_lt (I1.out.elim (fun x => x.lt) (fun x => x.lt))
      clear HI HB f0 f1 hqw
      generalize wr.heap.size = q9 at h51 P1 ⊢
      generalize wr.alloc (Obj.cells #[.string p0, .string p1] 37) = W4 at h51 I1 P1 B1 hw1 ⊢
      have d0 := Lib.cell_of_heap h51 0
      have d1 := Lib.cell_of_heap h51 1
      have hq9 := blk_lt h51
      have hBlt : B < W4.heap.size := I1.out.elim (fun x => x.lt) (fun x => x.lt)
      have hlen : (Lib.byteCells acc2).length + s.size ≤ 140737488355328 := by rw [Lib.byteCells_length]; omega
      have HLN := Lib.hid hlen
      clear hlen
      have q1 : (9223372036854775807 < 1 + p0.size) = False := eq_false (by omega)
      have q2 : (9223372036854775807 < 1 + p0.size + 2) = False := eq_false (by omega)
      have q3 : (9223372036854775807 < 1 + p0.size + 2 + e1.size) = False := eq_false (by omega)
      have q4 : (9223372036854775807 < 1 + p0.size + 2 + e1.size + 1) = False := eq_false (by omega)
      go_region_held3 (fun w' => w'.cell? ⟨q9, 0, none⟩ = some (.string p0) ∧ w'.cell? ⟨q9, 1, none⟩ = some (.string p1)) (first | exact ⟨d30, d31⟩ | exact ⟨d20, d21⟩ | exact ⟨d0, d1⟩) (first | (go_at_call 14; refine (quote_Escape.calls p1 e1 _ HE.out).mono ?_; rintro e W5 ⟨rfl, hb5⟩; have d20 : W5.cell? ⟨q9, 0, none⟩ = some (.string p0) := (hb5.cell (p := ⟨q9, 0, none⟩) hq9).trans (by exact d0); have d21 : W5.cell? ⟨q9, 1, none⟩ = some (.string p1) := (hb5.cell (p := ⟨q9, 1, none⟩) hq9).trans (by exact d1); have hs5 : W4.heap.size ≤ W5.heap.size := hb5.size; have hz5 : w.heap.size ≤ W5.heap.size := Nat.le_trans hq (Nat.le_trans hw1 hs5); have I5 := Aside0.mk (Bld.move I1.out (fun k hk => hb5.block k hk)); have P5 := Aside0.mk (P1.out.same (hb5.block B hBlt) hs5); have B5 : Aside0 (Below w.heap.size w W5) := ⟨by first | exact (below_drew1 B1.out).trans (hb5.mono B1.out.size) | exact B1.out.trans (hb5.mono B1.out.size)⟩; clear hb5) | (go_at_call 41; refine (Bld.write2 B B (Lib.byteCells acc2) s _ (by exact I5.out) HLN.out (Nat.le_trans hw1 hs5)).mono ?_; rintro e W6 ⟨rfl, hi6, hb6, hst6⟩; have hA6 := hst6.2 q9 (by exact P5.out); have d30 : W6.cell? ⟨q9, 0, none⟩ = some (.string p0) := (quote_Print.cell hA6.2).trans d20; have d31 : W6.cell? ⟨q9, 1, none⟩ = some (.string p1) := (quote_Print.cell hA6.2).trans d21; have I6 := Aside0.mk hi6; have B6 : Aside0 (Below w.heap.size w W6) := ⟨by first | exact B5.out.trans (hb6.mono hq) | exact (below_drew1 B5.out).trans (hb6.mono hq)⟩; clear hi6 hb6 hst6 hA6))
      go_wp2_with fail
      exact ⟨⟨j + 1, _, by push_cast; rfl, hlt2, HQ, ⟨by rw [Lib.byteCells_append]; exact I6.out⟩, B6⟩, by show x1.length - (((j : Int) + 1)).toNat < x1.length - ((j : Int)).toNat; omega⟩

/-! ### stringslite_HasSuffix: function 46 -/
def stringslite_HasSuffix.f (a0 : ByteArray) (a1 : ByteArray) : Option (Bool) := if (a0.size : Int) ≥ (a1.size : Int) then (if 0 ≤ (wrap64 ((a0.size : Int) - (a1.size : Int))) then (if (wrap64 ((a0.size : Int) - (a1.size : Int))) ≤ (a0.size : Int) then (some ((a0.extract ((wrap64 ((a0.size : Int) - (a1.size : Int))) : Int).toNat a0.size).toList == a1.toList)) else (none)) else (none)) else (some false)
set_option maxHeartbeats 8000000 in
set_option maxRecDepth 100000 in
theorem stringslite_HasSuffix.calls (a0 : ByteArray) (a1 : ByteArray) (r : Bool) (w : World) (h : stringslite_HasSuffix.f a0 a1 = some r) :
    Calls Try.prog 46 #[.string a0, .string a1] w fun e w' => e = .returned (.bool r) ∧ Drawn0 w w' := by
  have H : (if (a0.size : Int) ≥ (a1.size : Int) then (if 0 ≤ (wrap64 ((a0.size : Int) - (a1.size : Int))) then (if (wrap64 ((a0.size : Int) - (a1.size : Int))) ≤ (a0.size : Int) then (some ((a0.extract ((wrap64 ((a0.size : Int) - (a1.size : Int))) : Int).toNat a0.size).toList == a1.toList)) else (none)) else (none)) else (some false)) = some r := h
  clear h
  by_cases c3 : (a0.size : Int) ≥ (a1.size : Int)
  · rw [if_pos c3] at H
    have c3b0 : decide ((a1.size : Int) ≤ (a0.size : Int)) = true := decide_eq_true c3
    have c3b1 : decide (a1.size ≤ a0.size) = true := decide_eq_true (Int.ofNat_le.mp c3)
    clear c3
    obtain ⟨ji4, hji4⟩ : ∃ j_ : Int, (wrap64 ((a0.size : Int) - (a1.size : Int))) = j_ := ⟨_, rfl⟩
    replace H : (if 0 ≤ (ji4) then (if (ji4) ≤ (a0.size : Int) then (some ((a0.extract ((ji4) : Int).toNat a0.size).toList == a1.toList)) else (none)) else (none)) = some r := by first | (rw [hji4] at H; exact H) | (simp only [hji4] at H ⊢; exact H)
    have hji4w : (IntKind.i64.wrap ((a0.size : Int) - (a1.size : Int))) = ji4 := (i64_w _).trans hji4
    by_cases c5 : 0 ≤ (ji4)
    · rw [if_pos c5] at H
      have c5b0 := eq_true c5
      have c5b1 : decide (0 ≤ (ji4)) = true := decide_eq_true c5
      clear c5
      by_cases c6 : (ji4) ≤ (a0.size : Int)
      · rw [if_pos c6] at H
        have c6b0 := eq_true c6
        have c6b1 : decide ((ji4) ≤ (a0.size : Int)) = true := decide_eq_true c6
        clear c6
        obtain rfl := Option.some.inj H
        go_enter Try.func46, Try.ntmps46
        go_wp2
        go_ret
        exact ⟨by first | rfl | (simp; done) | (simp only [← hji4] <;> (first | rfl | simp)) | (simp [*]; done), by repeat (first | exact Drawn0.refl _ | apply Drawn0.step)⟩
      · rw [if_neg c6] at H
        exact absurd H (by simp)
    · rw [if_neg c5] at H
      exact absurd H (by simp)
  · rw [if_neg c3] at H
    have c3b0 : decide ((a1.size : Int) ≤ (a0.size : Int)) = false := decide_eq_false c3
    have c3b1 : decide (a1.size ≤ a0.size) = false := decide_eq_false (fun h => c3 (Int.ofNat_le.mpr h))
    clear c3
    obtain rfl := Option.some.inj H
    go_enter Try.func46, Try.ntmps46
    go_wp2
    go_ret
    exact ⟨by first | rfl | (simp; done) | (simp [*]; done) | (simp [IntKind.wrap_u8, IntKind.wrap_i64, wrap64]; done) | (simp only [IntKind.wrap_u8]; rfl), by repeat (first | exact Drawn0.refl _ | apply Drawn0.step)⟩

/-! ### strings_HasSuffix: function 21 -/
def strings_HasSuffix.f (a0 : ByteArray) (a1 : ByteArray) : Option (Bool) := (stringslite_HasSuffix.f a0 a1).bind fun t255 => (some t255)
set_option maxHeartbeats 8000000 in
set_option maxRecDepth 100000 in
theorem strings_HasSuffix.calls (a0 : ByteArray) (a1 : ByteArray) (r : Bool) (w : World) (h : strings_HasSuffix.f a0 a1 = some r) :
    Calls Try.prog 21 #[.string a0, .string a1] w fun e w' => e = .returned (.bool r) ∧ Drawn0 w w' := by
  have H : ((stringslite_HasSuffix.f a0 a1).bind fun t255 => (some t255)) = some r := h
  clear h
  replace H := Option.bind_eq_some_iff.mp H
  obtain ⟨t255, A30, H⟩ := H
  replace H : (some t255) = some r := H
  have A3 := Aside0.mk A30
  clear A30
  obtain rfl := Option.some.inj H
  go_enter Try.func21, Try.ntmps21
  go_wp2_with (first | ((with_reducible refine gate_callee (f := 46) rfl ?_); refine goesL_ (some 7) rfl rfl Try.func46 (by kernel_rfl) rfl #[.string a0, .string a1] rfl (by (try simp only [List.map_toArray, List.map_cons, List.map_nil]); first | done | rfl | (simp only [List.length_drop, List.length_take]; rfl)) ?_; (with_reducible refine (stringslite_HasSuffix.calls a0 a1 t255 _ A3.out).mono ?_); rintro e w' ⟨rfl, ⟨nd, rfl⟩⟩; refine ⟨_, rfl, ?_⟩))
  go_ret
  exact ⟨by first | rfl | (simp; done) | (simp [*]; done) | (simp [IntKind.wrap_u8, IntKind.wrap_i64, wrap64]; done) | (simp only [IntKind.wrap_u8]; rfl), by repeat (first | exact Drawn0.refl _ | apply Drawn0.step)⟩

end Go.Proofs.Ytgopphglkjdcaaa.Px
