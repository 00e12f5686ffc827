-- Laid by wip/hprint.py: the kit's print of the translation, turned in places, beside contracts that this session wrote by hand; Lean checks all of it.
import Derived.Test.YtgopphglkjdcaaaPx0
import Derived.Test.YtgopphglkjdcaaaPx10
import Derived.Test.YtgopphglkjdcaaaPx25
namespace Go.Proofs.Ytgopphglkjdcaaa.Px
open Go.RowKit Go.Proofs.YtgopphglkjdcaaaW.PrintWords Go.Proofs.YtgopphglkjdcaaaW.PrintLast Go.Proofs.YtgopphglkjdcaaaW.PrintMore
attribute [local go_sem] max2_int min2_int max_two min_two max_three min_three max_four min_four   -- for this text's walks alone
set_option linter.unusedVariables false
set_option linter.unusedSimpArgs false

/-! ### quote_Get: function 17, by hand -/
def quote_Get.idx (id : ByteArray) : List S35 → Nat → Int
  | [], _ => -1
  | x :: l, i => if x.f0.toList = id.toList then (i : Int) else quote_Get.idx id l (i + 1)
def quote_Get.par (name : ByteArray) : List S37 → ByteArray × Bool
  | [] => (⟨#[]⟩, false)
  | p :: l => if p.f0.toList = name.toList then (p.f1, true) else quote_Get.par name l
def quote_Get.f (l0 : List S35) (a1 a2 : ByteArray) : Option (ByteArray × Bool) :=
  if l0.length ≤ 1073741824 then (if quote_Get.idx a1 l0 0 < 0 then some (⟨#[]⟩, false) else if (rd_T35 l0 (quote_Get.idx a1 l0 0)).f1.length ≤ 4611686018427387904 then some (quote_Get.par a2 (rd_T35 l0 (quote_Get.idx a1 l0 0)).f1) else none) else none
theorem quote_Get.idx_lt (id : ByteArray) : ∀ (l : List S35) (i : Nat), quote_Get.idx id l i < (i : Int) + (l.length : Int)
  | [], i => by rw [quote_Get.idx, List.length_nil]; omega
  | x :: l, i => by
    rw [quote_Get.idx, List.length_cons]
    split
    · omega
    · have := quote_Get.idx_lt id l (i + 1)
      omega
theorem quote_Get.drop35 (l : List S35) (i : Nat) (h : i < l.length) : l.drop i = rd_T35 l (i : Int) :: l.drop (i + 1) := by
  rw [List.drop_eq_getElem_cons h]
  congr 1
  unfold rd_T35
  rw [Int.toNat_natCast, List.getD_eq_getElem?_getD, List.getElem?_eq_getElem h, Option.getD_some]
theorem quote_Get.drop37 (l : List S37) (i : Nat) (h : i < l.length) : l.drop i = rd_T37 l (i : Int) :: l.drop (i + 1) := by
  rw [List.drop_eq_getElem_cons h]
  congr 1
  unfold rd_T37
  rw [Int.toNat_natCast, List.getD_eq_getElem?_getD, List.getElem?_eq_getElem h, Option.getD_some]
set_option maxHeartbeats 4000000 in
set_option maxRecDepth 100000 in
theorem quote_Get.lit (x : S35) (A0 : Option Addr) (c0 : Nat) (id : ByteArray) (g : Nat) (w : World) (hg : w.cell? ⟨g, 0, none⟩ = some (.string id)) :
    Calls Try.prog 39 #[.agg #[.string x.f0, .slice A0 x.f1.length c0], .pointer (some ⟨g, 0, none⟩)] w fun e w' => e = .returned (.bool (x.f0.toList == id.toList)) ∧ Below w.heap.size w w' := by
  obtain ⟨x0, x1⟩ := x
  simp only
  have B1 := Aside0.mk (below_alloc (Below.refl w.heap.size w) (Obj.cells #[.string x0, .slice A0 x1.length c0] 35))
  have h0 := heap_alloc_new w (Obj.cells #[.string x0, .slice A0 x1.length c0] 35)
  have hg' := ((below_alloc (Below.refl w.heap.size w) (Obj.cells #[.string x0, .slice A0 x1.length c0] 35)).cell (p := ⟨g, 0, none⟩) (World.block_lt_of_cell? w _ hg)).trans hg
  clear hg
  go_enter Try.func39, Try.ntmps39
  go_upto_region 1 with (fail)
  generalize w.alloc (Obj.cells #[.string x0, .slice A0 x1.length c0] 35) = W at h0 hg' B1 ⊢
  have d0 := Lib.cell_of_heap h0 0
  clear h0
  go_wp2_with fail
  go_ret
  exact ⟨rfl, B1.out⟩
set_option maxHeartbeats 4000000 in
set_option maxRecDepth 100000 in
theorem quote_Get.index (A0 : Option Addr) (c0 : Nat) (l0 : List S35) (id : ByteArray) (g : Nat) (w : World) (hr0 : Kd.C k35 w A0 l0.length l0) (hc0 : l0.length ≤ c0) (hl : l0.length ≤ 1073741824) (hg : w.cell? ⟨g, 0, none⟩ = some (.string id)) :
    Calls Try.prog 38 #[.slice A0 l0.length c0, .func (.func 39) #[] #[.pointer (some ⟨g, 0, none⟩)]] w fun e w' => e = .returned (.int .i64 (quote_Get.idx id l0 0)) ∧ Below w.heap.size w w' := by
  have HR0 := Aside0.mk hr0
  have HB0 := Aside0.mk (Below.refl w.heap.size w)
  clear hr0
  go_enter Try.func38, Try.ntmps38
  go_wp2_with fail
  go_loopw [8] (fun v wr => ∃ (i : Nat), v = .int .i64 i ∧ i ≤ l0.length ∧ quote_Get.idx id l0 0 = quote_Get.idx id (l0.drop i) i ∧ Aside0 (Below w.heap.size w wr)) (fun v _ => match v with | .int _ n => l0.length - n.toNat | _ => 0)
  case atStart => exact ⟨0, rfl, Nat.zero_le _, rfl, HB0⟩
  case round =>
    obtain ⟨i, rfl, hi, HG, HB⟩ := hrel
    clear HB0
    by_cases hlt : i < l0.length
    case neg =>
      obtain rfl : i = l0.length := by omega
      rw [List.drop_length, quote_Get.idx] at HG
      have HG := Lib.hid HG
      go_wp2_with fail
      go_ret
      exact ⟨by rw [HG.out]; rfl, HB.out⟩
    rw [quote_Get.drop35 l0 i hlt, quote_Get.idx] at HG
    obtain ⟨ad, C0, m0, rfl, e0, e1, hn0, hC0⟩ := at_T35 HR0.out (i : Int) (by omega) (by omega)
    simp only [Int.toNat_natCast] at e0 e1
    generalize rd_T35 l0 (i : Int) = x at HG e0 e1 hn0 hC0
    replace e0 := (HB.out.cell (World.block_lt_of_cell? w _ e0)).trans e0
    replace e1 := (HB.out.cell (World.block_lt_of_cell? w _ e1)).trans e1
    have HG := Lib.hid HG
    have hlt' : (i : Int) < (l0.length : Int) := by omega
    clear hC0
    obtain ⟨x0, x1⟩ := x
    simp only at e0 e1 hn0
    go_wp2_with fail
    refine (quote_Get.lit ⟨x0, x1⟩ C0 m0 id g _ ((HB.out.cell (p := ⟨g, 0, none⟩) (World.block_lt_of_cell? w _ hg)).trans hg)).mono ?_
    rintro e W2 ⟨rfl, hb2⟩
    have B2 := Aside0.mk (HB.out.trans (hb2.mono HB.out.size))
    clear hb2 e0 e1 HB
    have HQ := HG.out
    clear HG
    by_cases hc : x0.toList = id.toList
    · rw [if_pos hc] at HQ
      have cb : (x0.toList == id.toList) = true := beq_iff_eq.mpr hc
      have HQ := Lib.hid HQ
      clear hc
      go_wp2_with fail
      go_ret
      exact ⟨by rw [HQ.out]; rfl, B2.out⟩
    · rw [if_neg hc] at HQ
      have cb : (x0.toList == id.toList) = false := beq_eq_false_iff_ne.mpr hc
      have HQ := Lib.hid HQ
      clear hc
      go_wp2_with fail
      exact ⟨⟨i + 1, by push_cast; rfl, hlt, HQ.out, B2⟩, by show l0.length - (((i : Int) + 1)).toNat < l0.length - ((i : Int)).toNat; omega⟩
set_option maxHeartbeats 4000000 in
set_option maxRecDepth 100000 in
theorem quote_Get.calls (A0 : Option Addr) (c0 : Nat) (l0 : List S35) (a1 a2 : ByteArray) (r1 : ByteArray) (r2 : Bool) (w : World) (hr0 : Kd.C k35 w A0 l0.length l0) (hc0 : l0.length ≤ c0) (h : quote_Get.f l0 a1 a2 = some (r1, r2)) :
    Calls Try.prog 17 #[.slice A0 l0.length c0, .string a1, .string a2] w fun e w' => e = .returned (.tuple #[.string r1, .bool r2]) ∧ Below w.heap.size w w' := by
  unfold quote_Get.f at h
  by_cases hl : l0.length ≤ 1073741824
  case neg => rw [if_neg hl] at h; cases h
  rw [if_pos hl] at h
  have HR0 := Aside0.mk hr0
  have hr0' := Aside0.mk (Kd.C_alloc hr0 (Obj.cells #[.string a1] 9))
  have hg := Lib.cell_of_heap (heap_alloc_new w (Obj.cells #[.string a1] 9)) 0
  have HB := Aside0.mk (below_alloc (Below.refl w.heap.size w) (Obj.cells #[.string a1] 9))
  clear hr0
  have hidx := quote_Get.idx_lt a1 l0 0
  obtain ⟨t, ht⟩ : ∃ t, quote_Get.idx a1 l0 0 = t := ⟨_, rfl⟩
  rw [ht] at h hidx
  have HT := Lib.hid ht
  clear ht
  have H0 := Lib.hid h
  clear h
  go_enter Try.func17, Try.ntmps17
  go_wp2_with fail
  refine (quote_Get.index A0 c0 l0 a1 w.heap.size _ hr0'.out hc0 hl hg).mono ?_
  rintro e W2 ⟨rfl, hb2⟩
  rw [HT.out]
  have B2 := Aside0.mk (HB.out.trans (hb2.mono HB.out.size))
  clear hb2 HB hg hr0'
  have h := H0.out
  clear H0
  by_cases h1 : t < 0
  · rw [if_pos h1] at h
    simp only [Option.some.injEq, Prod.mk.injEq] at h
    obtain ⟨rfl, rfl⟩ := h
    have d1 : decide (t < 0) = true := decide_eq_true h1
    clear h1 hidx
    go_wp2_with fail
    go_ret2
    exact ⟨rfl, B2.out⟩
  rw [if_neg h1] at h
  have d1 : decide (t < 0) = false := decide_eq_false h1
  obtain ⟨i, rfl⟩ : ∃ i : Nat, t = (i : Int) := ⟨t.toNat, by omega⟩
  have hlt : i < l0.length := by omega
  have hlt' : (i : Int) < (l0.length : Int) := by omega
  obtain ⟨ad, C0, m0, rfl, e0, e1, hn0, hC0⟩ := at_T35 HR0.out (i : Int) (by omega) (by omega)
  simp only [Int.toNat_natCast] at e0 e1
  generalize rd_T35 l0 (i : Int) = x at h e0 e1 hn0 hC0
  replace e0 := (B2.out.cell (World.block_lt_of_cell? w _ e0)).trans e0
  replace e1 := (B2.out.cell (World.block_lt_of_cell? w _ e1)).trans e1
  obtain ⟨x0, x1⟩ := x
  simp only at e0 e1 hn0 h hC0
  have HX := Aside0.mk hC0
  clear hC0 HT
  by_cases hl1 : x1.length ≤ 4611686018427387904
  case neg => rw [if_neg hl1] at h; cases h
  rw [if_pos hl1] at h
  injection h with h
  have H0 := Lib.hid h
  clear h h1 hidx
  go_wp2_with fail
  clear e0 e1 d1
  go_loopw [22] (fun v wr => ∃ (j : Nat), v = .int .i64 j ∧ j ≤ x1.length ∧ Hid (quote_Get.par a2 (x1.drop j) = (r1, r2)) ∧ Aside0 (Below w.heap.size w wr)) (fun v _ => match v with | .int _ n => x1.length - n.toNat | _ => 0)
  case atStart => exact ⟨0, rfl, Nat.zero_le _, H0, B2⟩
  case round =>
    obtain ⟨j, rfl, hj, HG, HB⟩ := hrel
    clear H0 B2
    have hgo := HG.out
    clear HG
    by_cases hlt2 : j < x1.length
    case neg =>
      obtain rfl : j = x1.length := by omega
      rw [List.drop_length, quote_Get.par] at hgo
      injection hgo with hg1 hg2
      subst hg1
      subst hg2
      go_wp2_with fail
      go_ret2
      exact ⟨rfl, HB.out⟩
    rw [quote_Get.drop37 x1 j hlt2, quote_Get.par] at hgo
    obtain ⟨bd, rfl, f0, f1⟩ := at_T37 HX.out (j : Int) (by omega) (by omega)
    simp only [Int.toNat_natCast] at f0 f1
    replace f0 := (HB.out.cell (World.block_lt_of_cell? w _ f0)).trans f0
    replace f1 := (HB.out.cell (World.block_lt_of_cell? w _ f1)).trans f1
    generalize rd_T37 x1 (j : Int) = p at hgo f0 f1
    obtain ⟨p0, p1⟩ := p
    simp only at f0 f1 hgo
    have hlt2' : (j : Int) < (x1.length : Int) := by omega
    have B3 := Aside0.mk (below_alloc HB.out (Obj.cells #[.string p0, .string p1] 37))
    have h0 := heap_alloc_new wr (Obj.cells #[.string p0, .string p1] 37)
    have HG := Lib.hid hgo
    clear hgo
    go_upto_region 7 with (fail)
    generalize wr.alloc (Obj.cells #[.string p0, .string p1] 37) = W3 at h0 B3 ⊢
    have u0 := Lib.cell_of_heap h0 0
    have u1 := Lib.cell_of_heap h0 1
    clear h0 f0 f1 HB
    have hgo := HG.out
    clear HG
    by_cases hc : p0.toList = a2.toList
    · rw [if_pos hc] at hgo
      injection hgo with hg1 hg2
      subst hg1
      subst hg2
      have cb : (p0.toList == a2.toList) = true := beq_iff_eq.mpr hc
      clear hc
      go_wp2_with fail
      go_ret2
      exact ⟨rfl, B3.out⟩
    · rw [if_neg hc] at hgo
      have HG := Lib.hid hgo
      have cb : (p0.toList == a2.toList) = false := beq_eq_false_iff_ne.mpr hc
      clear hc hgo
      go_wp2_with fail
      exact ⟨⟨j + 1, by push_cast; rfl, hlt2, HG, B3⟩, by show x1.length - (((j : Int) + 1)).toNat < x1.length - ((j : Int)).toNat; omega⟩

/-! ### gonglaw10_QuoteGet: function 4, by hand -/
def gonglaw10_QuoteGet.x1 (a1 : ByteArray) : S35 := ⟨a1 ++ ⟨#[120]⟩, []⟩
def gonglaw10_QuoteGet.x2 (a1 a2 : ByteArray) : S35 := ⟨a1, [⟨a2, ⟨#[102, 114, 111, 110, 116]⟩⟩]⟩
def gonglaw10_QuoteGet.f (k : Nat) (l0 : List S35) (a1 a2 : ByteArray) : Option Bool := (gonglaw10_works.f k).bind fun t => if t = true then (gonglaw10_small.f k l0).bind fun s => if s = true then (if (l0.length : Int) > 20 then some true else
    (quote_Get.f l0 a1 a2).bind fun v => if a1.size ≤ 140737488355328 then (quote_Get.f (gonglaw10_QuoteGet.x1 a1 :: l0) a1 a2).bind fun w => (quote_Get.f (gonglaw10_QuoteGet.x2 a1 a2 :: l0) a1 a2).bind fun u =>
      if v.1 = w.1 ∧ v.2 = w.2 ∧ u.1 = ⟨#[102, 114, 111, 110, 116]⟩ ∧ u.2 = true ∧ (v.2 = true ∨ v.1 = ⟨#[]⟩) then some true else none else none) else some true else some false
theorem gonglaw10_QuoteGet.mono : ∀ l0 a1 a2 k, LeO (gonglaw10_QuoteGet.f k l0 a1 a2) (gonglaw10_QuoteGet.f (k + 1) l0 a1 a2) := by
  intro l0 a1 a2 k
  unfold gonglaw10_QuoteGet.f
  exact LeO.bind (gonglaw10_works.mono _) (fun _ => LeO.ite (LeO.bind (gonglaw10_small.mono _ _) (fun _ => LeO.refl _)) (LeO.refl _))
theorem gonglaw10_QuoteGet.heap : Kd.Heap k35 := Kd.heap_iso _ (Kd.heap_pair Kd.heap_string (Kd.heap_slice _ (Kd.heap_iso _ (Kd.heap_pair Kd.heap_string Kd.heap_string))))
set_option maxHeartbeats 8000000 in
set_option maxRecDepth 100000 in
theorem gonglaw10_QuoteGet.calls (k : Nat) (A0 : Option Addr) (c0 : Nat) (l0 : List S35) (a1 a2 : ByteArray) (r : Bool) (w : World) (hr0 : Kd.C k35 w A0 l0.length l0) (hc0 : l0.length ≤ c0) (h : gonglaw10_QuoteGet.f k l0 a1 a2 = some r) :
    Calls Try.prog 4 #[.slice A0 l0.length c0, .string a1, .string a2] w fun e w' => e = .returned (.bool r) ∧ Below w.heap.size w w' := by
  unfold gonglaw10_QuoteGet.f at h
  obtain ⟨t, ht, h⟩ := Option.bind_eq_some_iff.mp h
  have HR0 := Aside0.mk hr0
  have HT := Lib.hid ht
  clear hr0 ht
  cases t with
  | false =>
    rw [if_neg (by simp)] at h
    injection h with h
    subst h
    go_enter Try.func4, Try.ntmps4
    go_wp2_with (first | (go_at_call 8; refine (gonglaw10_works.calls k false _ HT.out).mono ?_; rintro e w' ⟨rfl, hb⟩))
    go_ret
    exact ⟨rfl, hb⟩
  | true =>
  rw [if_pos rfl] at h
  obtain ⟨s, hs, h⟩ := Option.bind_eq_some_iff.mp h
  have HS := Lib.hid hs
  clear hs
  go_enter Try.func4, Try.ntmps4
  go_upto_region 3 with (first | (go_at_call 8; refine (gonglaw10_works.calls k true _ HT.out).mono ?_; rintro e W1 ⟨rfl, hb1⟩; have B1 := Aside0.mk hb1; have R1 := Aside0.mk (Kd.C_below HR0.out hb1); clear hb1))
  cases s with
  | false =>
    rw [if_neg (by simp)] at h
    injection h with h
    subst h
    go_wp2_with (first | (go_at_call 16; refine (gonglaw10_small.calls k A0 c0 l0 false _ R1.out hc0 HS.out).mono ?_; rintro e W2 ⟨rfl, ⟨nd, rfl⟩⟩))
    go_ret
    exact ⟨rfl, pw_below_drewN B1.out nd⟩
  | true =>
  rw [if_pos rfl] at h
  by_cases h20 : (l0.length : Int) > 20
  · rw [if_pos h20] at h
    injection h with h
    subst h
    have d1 : decide ((l0.length : Int) > 20) = true := decide_eq_true h20
    have d2 : decide (20 < l0.length) = true := decide_eq_true (by omega)
    clear h20
    go_wp2_with (first | (go_at_call 16; refine (gonglaw10_small.calls k A0 c0 l0 true _ R1.out hc0 HS.out).mono ?_; rintro e W2 ⟨rfl, ⟨nd, rfl⟩⟩))
    go_ret
    exact ⟨rfl, pw_below_drewN B1.out nd⟩
  rw [if_neg h20] at h
  have d1 : decide ((l0.length : Int) > 20) = false := decide_eq_false h20
  have d2 : decide (20 < l0.length) = false := decide_eq_false (by omega)
  have hl20 : l0.length ≤ 20 := by omega
  obtain ⟨⟨v1, v2⟩, hv, h⟩ := Option.bind_eq_some_iff.mp h
  by_cases ha1 : a1.size ≤ 140737488355328
  case neg => rw [if_neg ha1] at h; cases h
  rw [if_pos ha1] at h
  obtain ⟨⟨u1, u2⟩, hu, h⟩ := Option.bind_eq_some_iff.mp h
  obtain ⟨⟨q1, q2⟩, hq, h⟩ := Option.bind_eq_some_iff.mp h
  simp only at h
  by_cases hg : v1 = u1 ∧ v2 = u2 ∧ q1 = ⟨#[102, 114, 111, 110, 116]⟩ ∧ q2 = true ∧ (v2 = true ∨ v1 = ⟨#[]⟩)
  case neg => rw [if_neg hg] at h; cases h
  rw [if_pos hg] at h
  injection h with h
  subst h
  obtain ⟨rfl, rfl, rfl, rfl, hg5⟩ := hg
  have HV := Lib.hid hv
  have HU := Lib.hid hu
  have HQ := Lib.hid hq
  have H5 := Lib.hid hg5
  clear hv hu hq hg5 h20
  go_upto_region 5 with (first | (go_at_call 16; refine (gonglaw10_small.calls k A0 c0 l0 true _ R1.out hc0 HS.out).mono ?_; rintro e W2 ⟨rfl, ⟨nd, rfl⟩⟩))
  have B2 := Aside0.mk (pw_below_drewN B1.out nd)
  have R2 := Aside0.mk (Kd.C_drewN R1.out nd)
  clear B1 R1 HT HS
  generalize W1.drewN nd = W2 at B2 R2 ⊢
  go_upto_region 6 with (first | (go_at_call 17; refine (quote_Get.calls A0 c0 l0 a1 a2 v1 v2 _ R2.out hc0 HV.out).mono ?_; rintro e W3 ⟨rfl, hb3⟩))
  have B3 := Aside0.mk (B2.out.trans (hb3.mono B2.out.size))
  have R3 := Aside0.mk (Kd.C_below R2.out hb3)
  clear B2 R2 hb3
  have i35 : (Try.prog.info? 35).map (fun i => (i.zero, i.size, i.bytes)) = some (some (.agg #[(.string ⟨#[]⟩), (.slice none 0 0)]), 2, 40) := by kernel_rfl
  have hcat : (a1 ++ (⟨#[120]⟩ : ByteArray)).size = a1.size + 1 := by rw [ByteArray.size_append]; rfl
  have F3 := Aside0.mk (Kd.C_F gonglaw10_QuoteGet.heap R3.out)
  go_upto_region 7 with (first | ((with_reducible refine gate_dst (N := 35) rfl ?_); refine Kd.N_lit k35 _ 35 ?hg (N' := 35) ?hd (xs := [gonglaw10_QuoteGet.x1 a1]) (inner := [.string (a1 ++ ⟨#[120]⟩), .slice none 0 0]) (ok := (fun _ => True)) (okp := (fun _ => True)) ?hr ?hp (fun _ hk => hk) trivial (Below.refl _ _) (Nat.le_refl _) (by simp) ?_; (case hd => rfl); (case hg => rfl); (case hr => first | (go_simp; done) | (go_simp; rfl)); (case hp => exact (Reps.c2 (k35_mkF _ _ (gonglaw10_QuoteGet.x1 a1) (Nat.zero_le _) (by exact fun W' _ => Kd.C_nil _ _)) (Reps.none _ _))); intro p1 W4 ho4 hb4 hg4 hn4; clear hg4; have O4 := Aside0.mk ho4; have B4 := Aside0.mk hb4; clear ho4 hb4 hn4; obtain ⟨A4, c4, e4⟩ := Kd.N_slice O4.out; subst e4) | ((with_reducible refine gate_builtin (b := .append) (xs := #[.tmp 35, .tmp 36]) rfl ?_); at_builtin; refine Kd.N_append_rows k35 (w0 := W3) W3.heap.size rfl (.tmp 35) (.tmp 36) 23 35 (.agg #[(.string ⟨#[]⟩), (.slice none 0 0)]) 40 rfl Try.underlying23 i35 rfl (by decide) (by omega) (.slice A4 [gonglaw10_QuoteGet.x1 a1].length c4) [gonglaw10_QuoteGet.x1 a1] l0 A0 l0.length c0 (fun _ => True) (fun k_ => k_ < W3.heap.size) rfl rfl ?aO ?aR ?aK (fun _ _ => trivial) ?aB ?aS ?aL ?_; (case aO => exact O4.out); (case aR => exact fun W' hW => F3.out W' (fun k hk _ => (hW k hk (Nat.lt_of_lt_of_le hk B4.out.size)).trans (B4.out.block k hk))); (case aK => exact fun k hk => ⟨trivial, fun e => absurd (Kd.N_base O4.out k e.symm) (by omega)⟩); (case aB => exact B4.out); (case aS => exact B4.out.size); (case aL => simp only [List.length_cons, List.length_nil]; omega); intro p2 W5 ho5 hb5 hg5 hat5; clear hg5 hat5; have O5 := Aside0.mk ho5; have B5 := Aside0.mk (B3.out.trans (hb5.mono B3.out.size)); have R5 := Aside0.mk (Kd.C_below R3.out hb5); clear ho5 hb5; obtain ⟨A5, c5, e5⟩ := Kd.N_slice O5.out; subst e5))
  go_upto_region 8 with (first | (go_at_call 17; refine (quote_Get.calls A5 c5 ([gonglaw10_QuoteGet.x1 a1] ++ l0) a1 a2 v1 v2 _ (Kd.N_reads' O5.out).2.2 (Kd.N_reads' O5.out).2.1 HU.out).mono ?_; rintro e W6 ⟨rfl, hb6⟩))
  have B6 := Aside0.mk (B5.out.trans (hb6.mono B5.out.size))
  have R6 := Aside0.mk (Kd.C_below R5.out hb6)
  clear B5 R5 hb6 O5 O4 B4 R3 B3 F3
  have F6 := Aside0.mk (Kd.C_F gonglaw10_QuoteGet.heap R6.out)
  go_upto_region 9 with (first | ((with_reducible refine gate_dst (N := 48) rfl ?_); refine Kd.R_lit k37 _ 37 ?hg (N := 48) ?hd (xs := ([⟨a2, ⟨#[102, 114, 111, 110, 116]⟩⟩] : List S37)) (inner := [.string a2, .string ⟨#[102, 114, 111, 110, 116]⟩]) (ok := fun _ => True) (okp := fun _ => True) ?hr ?hp (fun _ hk => hk) trivial (Below.refl _ _) (Nat.le_refl _) (by simp) ?_; (case hd => rfl); (case hg => rfl); (case hr => first | (go_simp; done) | (go_simp; rfl)); (case hp => exact (Reps.c2 (show Kd.M k37 _ _ _ (⟨a2, ⟨#[102, 114, 111, 110, 116]⟩⟩ : S37) [.string a2, .string ⟨#[102, 114, 111, 110, 116]⟩] from (k37_mkM _ _ _ (⟨a2, ⟨#[102, 114, 111, 110, 116]⟩⟩ : S37))) (Reps.none _ _))); intro p3 W7 ho7 hb7 hg7 hn7; clear hg7 hn7; have O7 := Aside0.mk ho7; have B7 := Aside0.mk hb7; clear ho7 hb7; obtain ⟨A7, c7, e7⟩ := Kd.R_slice O7.out; subst e7) | ((with_reducible refine gate_dst (N := 50) rfl ?_); refine Kd.N_lit k35 (w0 := W6) W6.heap.size 35 ?hg (N' := 50) ?hd (xs := [gonglaw10_QuoteGet.x2 a1 a2]) (inner := [.string a1, .slice A7 1 c7]) (ok := (fun _ => True)) (okp := (fun _ => True)) ?hr ?hp (fun _ hk => hk) trivial B7.out B7.out.size (by simp) ?_; (case hd => rfl); (case hg => rfl); (case hr => first | (go_simp; done) | (go_simp; rfl)); (case hp => exact (Reps.c2 (k35_mkF _ _ (gonglaw10_QuoteGet.x2 a1 a2) (Kd.R_reads' O7.out).2.1 (Kd.R_F O7.out)) (Reps.none _ _))); intro p4 W8 ho8 hb8 hg8 hn8; clear hg8; have O8 := Aside0.mk ho8; have B8 := Aside0.mk hb8; clear ho8 hb8 hn8; obtain ⟨A8, c8, e8⟩ := Kd.N_slice O8.out; subst e8) | ((with_reducible refine gate_builtin (b := .append) (xs := #[.tmp 50, .tmp 51]) rfl ?_); at_builtin; refine Kd.N_append_rows k35 (w0 := W6) W6.heap.size rfl (.tmp 50) (.tmp 51) 23 35 (.agg #[(.string ⟨#[]⟩), (.slice none 0 0)]) 40 rfl Try.underlying23 i35 rfl (by decide) (by omega) (.slice A8 [gonglaw10_QuoteGet.x2 a1 a2].length c8) [gonglaw10_QuoteGet.x2 a1 a2] l0 A0 l0.length c0 (fun _ => True) (fun k_ => k_ < W6.heap.size) rfl rfl ?aO ?aR ?aK (fun _ _ => trivial) ?aB ?aS ?aL ?_; (case aO => exact O8.out); (case aR => exact fun W' hW => F6.out W' (fun k hk _ => (hW k hk (Nat.lt_of_lt_of_le hk B8.out.size)).trans (B8.out.block k hk))); (case aK => exact fun k hk => ⟨trivial, fun e => absurd (Kd.N_base O8.out k e.symm) (by omega)⟩); (case aB => exact B8.out); (case aS => exact B8.out.size); (case aL => simp only [List.length_cons, List.length_nil]; omega); intro p5 W9 ho9 hb9 hg9 hat9; clear hg9 hat9; have O9 := Aside0.mk ho9; have B9 := Aside0.mk (B6.out.trans (hb9.mono B6.out.size)); clear ho9 hb9; obtain ⟨A9, c9, e9⟩ := Kd.N_slice O9.out; subst e9))
  go_upto_region 10 with (first | (go_at_call 17; refine (quote_Get.calls A9 c9 ([gonglaw10_QuoteGet.x2 a1 a2] ++ l0) a1 a2 ⟨#[102, 114, 111, 110, 116]⟩ true _ (Kd.N_reads' O9.out).2.2 (Kd.N_reads' O9.out).2.1 HQ.out).mono ?_; rintro e W10 ⟨rfl, hb10⟩))
  have B10 := Aside0.mk (B9.out.trans (hb10.mono B9.out.size))
  clear B9 hb10 O9
  have h5 := H5.out
  cases v2 with
  | true =>
    go_wp2_with fail
    go_ret
    exact ⟨rfl, B10.out⟩
  | false =>
    obtain rfl : v1 = ⟨#[]⟩ := by simpa using h5
    go_wp2_with fail
    go_ret
    exact ⟨rfl, B10.out⟩

-- NOT PRINTED: function 41 (strings_Builder_WriteString)

-- NOT PRINTED: function 42 (strings_Builder_Len)

end Go.Proofs.Ytgopphglkjdcaaa.Px
