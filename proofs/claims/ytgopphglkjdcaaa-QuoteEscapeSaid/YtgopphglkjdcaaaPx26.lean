-- Laid by wip/hprint.py: the kit's print of the translation, turned in places, beside contracts that this session wrote by hand; Lean checks all of it.
import Derived.Test.YtgopphglkjdcaaaPx0
namespace Go.Proofs.Ytgopphglkjdcaaa.Px
open Go.RowKit Go.Proofs.YtgopphglkjdcaaaW.PrintWords Go.Proofs.YtgopphglkjdcaaaW.PrintLast Go.Proofs.YtgopphglkjdcaaaW.PrintMore
attribute [local go_sem] max2_int min2_int max_two min_two max_three min_three max_four min_four   -- for this text's walks alone
set_option linter.unusedVariables false
set_option linter.unusedSimpArgs false

/-! ### quote_Get: function 17, by hand -/
def quote_Get.idx (id : ByteArray) : List S35 → Nat → Int
  | [], _ => -1
  | x :: l, i => if x.f0.toList = id.toList then (i : Int) else quote_Get.idx id l (i + 1)
def quote_Get.par (name : ByteArray) : List S37 → ByteArray × Bool
  | [] => (⟨#[]⟩, false)
  | p :: l => if p.f0.toList = name.toList then (p.f1, true) else quote_Get.par name l
def quote_Get.f (l0 : List S35) (a1 a2 : ByteArray) : Option (ByteArray × Bool) :=
  if l0.length ≤ 1073741824 then (if quote_Get.idx a1 l0 0 < 0 then some (⟨#[]⟩, false) else if (rd_T35 l0 (quote_Get.idx a1 l0 0)).f1.length ≤ 1073741824 then some (quote_Get.par a2 (rd_T35 l0 (quote_Get.idx a1 l0 0)).f1) else none) else none
theorem quote_Get.idx_lt (id : ByteArray) : ∀ (l : List S35) (i : Nat), quote_Get.idx id l i < (i : Int) + (l.length : Int)
  | [], i => by rw [quote_Get.idx, List.length_nil]; omega
  | x :: l, i => by
    rw [quote_Get.idx, List.length_cons]
    split
    · omega
    · have := quote_Get.idx_lt id l (i + 1)
      omega
theorem quote_Get.drop35 (l : List S35) (i : Nat) (h : i < l.length) : l.drop i = rd_T35 l (i : Int) :: l.drop (i + 1) := by
  rw [List.drop_eq_getElem_cons h]
  congr 1
  unfold rd_T35
  rw [Int.toNat_natCast, List.getD_eq_getElem?_getD, List.getElem?_eq_getElem h, Option.getD_some]
theorem quote_Get.drop37 (l : List S37) (i : Nat) (h : i < l.length) : l.drop i = rd_T37 l (i : Int) :: l.drop (i + 1) := by
  rw [List.drop_eq_getElem_cons h]
  congr 1
  unfold rd_T37
  rw [Int.toNat_natCast, List.getD_eq_getElem?_getD, List.getElem?_eq_getElem h, Option.getD_some]
set_option maxHeartbeats 4000000 in
set_option maxRecDepth 100000 in
theorem quote_Get.lit (x : S35) (A0 : Option Addr) (c0 : Nat) (id : ByteArray) (g : Nat) (w : World) (hg : w.cell? ⟨g, 0, none⟩ = some (.string id)) :
    Calls Try.prog 39 #[.agg #[.string x.f0, .slice A0 x.f1.length c0], .pointer (some ⟨g, 0, none⟩)] w fun e w' => e = .returned (.bool (x.f0.toList == id.toList)) ∧ Below w.heap.size w w' := by
  obtain ⟨x0, x1⟩ := x
  simp only
  have B1 := Aside0.mk (below_alloc (Below.refl w.heap.size w) (Obj.cells #[.string x0, .slice A0 x1.length c0] 35))
  have h0 := heap_alloc_new w (Obj.cells #[.string x0, .slice A0 x1.length c0] 35)
  have hg' := ((below_alloc (Below.refl w.heap.size w) (Obj.cells #[.string x0, .slice A0 x1.length c0] 35)).cell (p := ⟨g, 0, none⟩) (World.block_lt_of_cell? w _ hg)).trans hg
  clear hg
  go_enter Try.func39, Try.ntmps39
  go_upto_region 1 with (fail)
  generalize w.alloc (Obj.cells #[.string x0, .slice A0 x1.length c0] 35) = W at h0 hg' B1 ⊢
  have d0 := Lib.cell_of_heap h0 0
  clear h0
  go_wp2_with fail
  go_ret
  exact ⟨rfl, B1.out⟩
set_option maxHeartbeats 4000000 in
set_option maxRecDepth 100000 in
theorem quote_Get.index (A0 : Option Addr) (c0 : Nat) (l0 : List S35) (id : ByteArray) (g : Nat) (w : World) (hr0 : Kd.C k35 w A0 l0.length l0) (hc0 : l0.length ≤ c0) (hl : l0.length ≤ 1073741824) (hg : w.cell? ⟨g, 0, none⟩ = some (.string id)) :
    Calls Try.prog 38 #[.slice A0 l0.length c0, .func (.func 39) #[] #[.pointer (some ⟨g, 0, none⟩)]] w fun e w' => e = .returned (.int .i64 (quote_Get.idx id l0 0)) ∧ Below w.heap.size w w' := by
  have HR0 := Aside0.mk hr0
  have HB0 := Aside0.mk (Below.refl w.heap.size w)
  clear hr0
  go_enter Try.func38, Try.ntmps38
  go_wp2_with fail
  go_loopw [8] (fun v wr => ∃ (i : Nat), v = .int .i64 i ∧ i ≤ l0.length ∧ quote_Get.idx id l0 0 = quote_Get.idx id (l0.drop i) i ∧ Aside0 (Below w.heap.size w wr)) (fun v _ => match v with | .int _ n => l0.length - n.toNat | _ => 0)
  case atStart => exact ⟨0, rfl, Nat.zero_le _, rfl, HB0⟩
  case round =>
    obtain ⟨i, rfl, hi, HG, HB⟩ := hrel
    clear HB0
    by_cases hlt : i < l0.length
    case neg =>
      obtain rfl : i = l0.length := by omega
      rw [List.drop_length, quote_Get.idx] at HG
      have HG := Lib.hid HG
      go_wp2_with fail
      go_ret
      exact ⟨by rw [HG.out]; rfl, HB.out⟩
    rw [quote_Get.drop35 l0 i hlt, quote_Get.idx] at HG
    obtain ⟨ad, C0, m0, rfl, e0, e1, hn0, hC0⟩ := at_T35 HR0.out (i : Int) (by omega) (by omega)
    simp only [Int.toNat_natCast] at e0 e1
    generalize rd_T35 l0 (i : Int) = x at HG e0 e1 hn0 hC0
    replace e0 := (HB.out.cell (World.block_lt_of_cell? w _ e0)).trans e0
    replace e1 := (HB.out.cell (World.block_lt_of_cell? w _ e1)).trans e1
    have HG := Lib.hid HG
    have hlt' : (i : Int) < (l0.length : Int) := by omega
    clear hC0
    obtain ⟨x0, x1⟩ := x
    simp only at e0 e1 hn0
    go_wp2_with fail
    refine (quote_Get.lit ⟨x0, x1⟩ C0 m0 id g _ ((HB.out.cell (p := ⟨g, 0, none⟩) (World.block_lt_of_cell? w _ hg)).trans hg)).mono ?_
    rintro e W2 ⟨rfl, hb2⟩
    have B2 := Aside0.mk (HB.out.trans (hb2.mono HB.out.size))
    clear hb2 e0 e1 HB
    have HQ := HG.out
    clear HG
    by_cases hc : x0.toList = id.toList
    · rw [if_pos hc] at HQ
      have cb : (x0.toList == id.toList) = true := beq_iff_eq.mpr hc
      have HQ := Lib.hid HQ
      clear hc
      go_wp2_with fail
      go_ret
      exact ⟨by rw [HQ.out]; rfl, B2.out⟩
    · rw [if_neg hc] at HQ
      have cb : (x0.toList == id.toList) = false := beq_eq_false_iff_ne.mpr hc
      have HQ := Lib.hid HQ
      clear hc
      go_wp2_with fail
      exact ⟨⟨i + 1, by push_cast; rfl, hlt, HQ.out, B2⟩, by show l0.length - (((i : Int) + 1)).toNat < l0.length - ((i : Int)).toNat; omega⟩
set_option maxHeartbeats 4000000 in
set_option maxRecDepth 100000 in
theorem quote_Get.calls (A0 : Option Addr) (c0 : Nat) (l0 : List S35) (a1 a2 : ByteArray) (r1 : ByteArray) (r2 : Bool) (w : World) (hr0 : Kd.C k35 w A0 l0.length l0) (hc0 : l0.length ≤ c0) (h : quote_Get.f l0 a1 a2 = some (r1, r2)) :
    Calls Try.prog 17 #[.slice A0 l0.length c0, .string a1, .string a2] w fun e w' => e = .returned (.tuple #[.string r1, .bool r2]) ∧ Below w.heap.size w w' := by
  unfold quote_Get.f at h
  by_cases hl : l0.length ≤ 1073741824
  case neg => rw [if_neg hl] at h; cases h
  rw [if_pos hl] at h
  have HR0 := Aside0.mk hr0
  have hr0' := Aside0.mk (Kd.C_alloc hr0 (Obj.cells #[.string a1] 9))
  have hg := Lib.cell_of_heap (heap_alloc_new w (Obj.cells #[.string a1] 9)) 0
  have HB := Aside0.mk (below_alloc (Below.refl w.heap.size w) (Obj.cells #[.string a1] 9))
  clear hr0
  have hidx := quote_Get.idx_lt a1 l0 0
  obtain ⟨t, ht⟩ : ∃ t, quote_Get.idx a1 l0 0 = t := ⟨_, rfl⟩
  rw [ht] at h hidx
  have HT := Lib.hid ht
  clear ht
  have H0 := Lib.hid h
  clear h
  go_enter Try.func17, Try.ntmps17
  go_wp2_with fail
  refine (quote_Get.index A0 c0 l0 a1 w.heap.size _ hr0'.out hc0 hl hg).mono ?_
  rintro e W2 ⟨rfl, hb2⟩
  rw [HT.out]
  have B2 := Aside0.mk (HB.out.trans (hb2.mono HB.out.size))
  clear hb2 HB hg hr0'
  have h := H0.out
  clear H0
  by_cases h1 : t < 0
  · rw [if_pos h1] at h
    simp only [Option.some.injEq, Prod.mk.injEq] at h
    obtain ⟨rfl, rfl⟩ := h
    have d1 : decide (t < 0) = true := decide_eq_true h1
    clear h1 hidx
    go_wp2_with fail
    go_ret2
    exact ⟨rfl, B2.out⟩
  rw [if_neg h1] at h
  have d1 : decide (t < 0) = false := decide_eq_false h1
  obtain ⟨i, rfl⟩ : ∃ i : Nat, t = (i : Int) := ⟨t.toNat, by omega⟩
  have hlt : i < l0.length := by omega
  have hlt' : (i : Int) < (l0.length : Int) := by omega
  obtain ⟨ad, C0, m0, rfl, e0, e1, hn0, hC0⟩ := at_T35 HR0.out (i : Int) (by omega) (by omega)
  simp only [Int.toNat_natCast] at e0 e1
  generalize rd_T35 l0 (i : Int) = x at h e0 e1 hn0 hC0
  replace e0 := (B2.out.cell (World.block_lt_of_cell? w _ e0)).trans e0
  replace e1 := (B2.out.cell (World.block_lt_of_cell? w _ e1)).trans e1
  obtain ⟨x0, x1⟩ := x
  simp only at e0 e1 hn0 h hC0
  have HX := Aside0.mk hC0
  clear hC0 HT
  by_cases hl1 : x1.length ≤ 1073741824
  case neg => rw [if_neg hl1] at h; cases h
  rw [if_pos hl1] at h
  injection h with h
  have H0 := Lib.hid h
  clear h h1 hidx
  go_wp2_with fail
  clear e0 e1 d1
  go_loopw [22] (fun v wr => ∃ (j : Nat), v = .int .i64 j ∧ j ≤ x1.length ∧ Hid (quote_Get.par a2 (x1.drop j) = (r1, r2)) ∧ Aside0 (Below w.heap.size w wr)) (fun v _ => match v with | .int _ n => x1.length - n.toNat | _ => 0)
  case atStart => exact ⟨0, rfl, Nat.zero_le _, H0, B2⟩
  case round =>
    obtain ⟨j, rfl, hj, HG, HB⟩ := hrel
    clear H0 B2
    have hgo := HG.out
    clear HG
    by_cases hlt2 : j < x1.length
    case neg =>
      obtain rfl : j = x1.length := by omega
      rw [List.drop_length, quote_Get.par] at hgo
      injection hgo with hg1 hg2
      subst hg1
      subst hg2
      go_wp2_with fail
      go_ret2
      exact ⟨rfl, HB.out⟩
    rw [quote_Get.drop37 x1 j hlt2, quote_Get.par] at hgo
    obtain ⟨bd, rfl, f0, f1⟩ := at_T37 HX.out (j : Int) (by omega) (by omega)
    simp only [Int.toNat_natCast] at f0 f1
    replace f0 := (HB.out.cell (World.block_lt_of_cell? w _ f0)).trans f0
    replace f1 := (HB.out.cell (World.block_lt_of_cell? w _ f1)).trans f1
    generalize rd_T37 x1 (j : Int) = p at hgo f0 f1
    obtain ⟨p0, p1⟩ := p
    simp only at f0 f1 hgo
    have hlt2' : (j : Int) < (x1.length : Int) := by omega
    have B3 := Aside0.mk (below_alloc HB.out (Obj.cells #[.string p0, .string p1] 37))
    have h0 := heap_alloc_new wr (Obj.cells #[.string p0, .string p1] 37)
    have HG := Lib.hid hgo
    clear hgo
    go_upto_region 7 with (fail)
    generalize wr.alloc (Obj.cells #[.string p0, .string p1] 37) = W3 at h0 B3 ⊢
    have u0 := Lib.cell_of_heap h0 0
    have u1 := Lib.cell_of_heap h0 1
    clear h0 f0 f1 HB
    have hgo := HG.out
    clear HG
    by_cases hc : p0.toList = a2.toList
    · rw [if_pos hc] at hgo
      injection hgo with hg1 hg2
      subst hg1
      subst hg2
      have cb : (p0.toList == a2.toList) = true := beq_iff_eq.mpr hc
      clear hc
      go_wp2_with fail
      go_ret2
      exact ⟨rfl, B3.out⟩
    · rw [if_neg hc] at hgo
      have HG := Lib.hid hgo
      have cb : (p0.toList == a2.toList) = false := beq_eq_false_iff_ne.mpr hc
      clear hc hgo
      go_wp2_with fail
      exact ⟨⟨j + 1, by push_cast; rfl, hlt2, HG, B3⟩, by show x1.length - (((j : Int) + 1)).toNat < x1.length - ((j : Int)).toNat; omega⟩

-- NOT PRINTED: function 4 (gonglaw10_QuoteGet)

-- NOT PRINTED: function 41 (strings_Builder_WriteString)

-- NOT PRINTED: function 42 (strings_Builder_Len)

end Go.Proofs.Ytgopphglkjdcaaa.Px
