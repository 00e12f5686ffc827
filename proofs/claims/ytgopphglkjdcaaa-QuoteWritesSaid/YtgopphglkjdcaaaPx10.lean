-- Laid by wip/hprint.py: the kit's print of the translation, turned in places, beside contracts that this session wrote by hand; Lean checks all of it.
import Derived.Test.YtgopphglkjdcaaaPx0
import Derived.Test.YtgopphglkjdcaaaPx8
import Derived.Test.YtgopphglkjdcaaaPx9
namespace Go.Proofs.Ytgopphglkjdcaaa.Px
open Go.RowKit Go.Proofs.YtgopphglkjdcaaaW.PrintWords Go.Proofs.YtgopphglkjdcaaaW.PrintLast Go.Proofs.YtgopphglkjdcaaaW.PrintMore
attribute [local go_sem] max2_int min2_int max_two min_two max_three min_three max_four min_four   -- for this text's walks alone
set_option linter.unusedVariables false
set_option linter.unusedSimpArgs false

/-! ### quote_Same: function 20, by hand -/
def quote_Same.one (k : Nat) (x y : S35) : Option Bool := if x.f0.toList = y.f0.toList then api_Param.f k x.f1 y.f1 else some false
def quote_Same.go (k : Nat) : List S35 → List S35 → Option Bool
  | x :: l, y :: m => (quote_Same.one k x y).bind fun b => if b = true then quote_Same.go k l m else some false
  | _, _ => some true
def quote_Same.f (k : Nat) (l0 l1 : List S35) : Option Bool := if l0.length ≤ 1073741824 then (if (l0.length : Int) = (l1.length : Int) then quote_Same.go k l0 l1 else some false) else none
theorem quote_Same.one_mono (k : Nat) (x y : S35) : LeO (quote_Same.one k x y) (quote_Same.one (k + 1) x y) := by
  unfold quote_Same.one
  exact LeO.ite (api_Param.mono _ _ _) (LeO.refl _)
theorem quote_Same.go_mono (k : Nat) : ∀ l m, LeO (quote_Same.go k l m) (quote_Same.go (k + 1) l m)
  | x :: l, y :: m => by
    rw [quote_Same.go, quote_Same.go]
    exact LeO.bind (quote_Same.one_mono k x y) (fun _ => LeO.ite (quote_Same.go_mono k l m) (LeO.refl _))
  | [], _ => by rw [quote_Same.go, quote_Same.go]; exact LeO.refl _; all_goals simp
  | _ :: _, [] => by rw [quote_Same.go, quote_Same.go]; exact LeO.refl _; all_goals simp
theorem quote_Same.mono : ∀ l0 l1 k, LeO (quote_Same.f k l0 l1) (quote_Same.f (k + 1) l0 l1) := by
  intro l0 l1 k
  unfold quote_Same.f
  exact LeO.ite (LeO.ite (quote_Same.go_mono _ _ _) (LeO.refl _)) (LeO.refl _)
theorem quote_Same.drop35 (l : List S35) (i : Nat) (h : i < l.length) : l.drop i = rd_T35 l (i : Int) :: l.drop (i + 1) := by
  rw [List.drop_eq_getElem_cons h]
  congr 1
  unfold rd_T35
  rw [Int.toNat_natCast, List.getD_eq_getElem?_getD, List.getElem?_eq_getElem h, Option.getD_some]
set_option maxHeartbeats 4000000 in
set_option maxRecDepth 100000 in
theorem quote_Same.lit (k : Nat) (x y : S35) (A0 : Option Addr) (c0 : Nat) (A1 : Option Addr) (c1 : Nat) (r : Bool) (w : World) (hr0 : Kd.C k37 w A0 x.f1.length x.f1) (hc0 : x.f1.length ≤ c0) (hr1 : Kd.C k37 w A1 y.f1.length y.f1) (hc1 : y.f1.length ≤ c1) (h : quote_Same.one k x y = some r) :
    Calls Try.prog 44 #[.agg #[.string x.f0, .slice A0 x.f1.length c0], .agg #[.string y.f0, .slice A1 y.f1.length c1]] w fun e w' => e = .returned (.bool r) ∧ Below w.heap.size w w' := by
  obtain ⟨x0, x1⟩ := x
  obtain ⟨y0, y1⟩ := y
  simp only at hr0 hr1 hc0 hc1 h ⊢
  unfold quote_Same.one at h
  simp only at h
  have R0 := Aside0.mk (Kd.C_alloc (Kd.C_alloc hr0 (Obj.cells #[.string x0, .slice A0 x1.length c0] 35)) (Obj.cells #[.string y0, .slice A1 y1.length c1] 35))
  have R1 := Aside0.mk (Kd.C_alloc (Kd.C_alloc hr1 (Obj.cells #[.string x0, .slice A0 x1.length c0] 35)) (Obj.cells #[.string y0, .slice A1 y1.length c1] 35))
  have B1 := Aside0.mk (below_alloc (below_alloc (Below.refl w.heap.size w) (Obj.cells #[.string x0, .slice A0 x1.length c0] 35)) (Obj.cells #[.string y0, .slice A1 y1.length c1] 35))
  clear hr0 hr1
  have h0 : ((w.alloc (Obj.cells #[.string x0, .slice A0 x1.length c0] 35)).alloc (Obj.cells #[.string y0, .slice A1 y1.length c1] 35)).heap[w.heap.size]? = _ := (Lib.alloc_old _ _ _ (by simp)).trans (heap_alloc_new w (Obj.cells #[.string x0, .slice A0 x1.length c0] 35))
  have h1 := heap_alloc_new (w.alloc (Obj.cells #[.string x0, .slice A0 x1.length c0] 35)) (Obj.cells #[.string y0, .slice A1 y1.length c1] 35)
  go_enter Try.func44, Try.ntmps44
  go_upto_region 1 with (fail)
  have hs : (w.alloc (Obj.cells #[.string x0, .slice A0 x1.length c0] 35)).heap.size = w.heap.size + 1 := by simp
  rw [hs] at h1
  generalize ((w.alloc (Obj.cells #[.string x0, .slice A0 x1.length c0] 35)).alloc (Obj.cells #[.string y0, .slice A1 y1.length c1] 35)) = W at h0 h1 R0 R1 B1 ⊢
  have d0 := Lib.cell_of_heap h0 0
  have d1 := Lib.cell_of_heap h0 1
  have e0 := Lib.cell_of_heap h1 0
  have e1 := Lib.cell_of_heap h1 1
  clear h0 h1 hs
  by_cases hc : x0.toList = y0.toList
  · rw [if_pos hc] at h
    have HE := Lib.hid h
    have cb : (x0.toList == y0.toList) = true := beq_iff_eq.mpr hc
    clear hc h
    go_wp2_with fail
    refine (api_Param.calls k A0 c0 x1 A1 c1 y1 r _ R0.out hc0 R1.out hc1 HE.out).mono ?_
    rintro e w' ⟨rfl, ⟨nd, rfl⟩⟩
    go_wp2_with fail
    go_ret
    exact ⟨rfl, pw_below_drewN B1.out nd⟩
  · rw [if_neg hc] at h
    injection h with h
    subst h
    have cb : (x0.toList == y0.toList) = false := beq_eq_false_iff_ne.mpr hc
    clear hc
    go_wp2_with fail
    go_ret
    exact ⟨rfl, B1.out⟩
set_option maxHeartbeats 4000000 in
set_option maxRecDepth 100000 in
theorem quote_Same.eqf (k : Nat) (A0 : Option Addr) (c0 : Nat) (l0 : List S35) (A1 : Option Addr) (c1 : Nat) (l1 : List S35) (r : Bool) (w : World) (hr0 : Kd.C k35 w A0 l0.length l0) (hc0 : l0.length ≤ c0) (hr1 : Kd.C k35 w A1 l1.length l1) (hc1 : l1.length ≤ c1) (h : quote_Same.f k l0 l1 = some r) :
    Calls Try.prog 43 #[.slice A0 l0.length c0, .slice A1 l1.length c1, .func (.func 44) #[] #[]] w fun e w' => e = .returned (.bool r) ∧ Below w.heap.size w w' := by
  unfold quote_Same.f at h
  by_cases hl : l0.length ≤ 1073741824
  case neg => rw [if_neg hl] at h; cases h
  rw [if_pos hl] at h
  have H0 := Lib.hid h
  have HR0 := Aside0.mk hr0
  have HR1 := Aside0.mk hr1
  clear h hr0 hr1
  by_cases hll : (l0.length : Int) = (l1.length : Int)
  case neg =>
    have h := H0.out
    rw [if_neg hll] at h
    injection h with h
    subst h
    have d1 : ((l0.length : Int) == (l1.length : Int)) = false := beq_eq_false_iff_ne.mpr hll
    have d2 : ((l0.length : Int) != (l1.length : Int)) = true := bne_iff_ne.mpr hll
    have d3 : ¬ (l0.length = l1.length) := by omega
    clear hll H0
    go_enter Try.func43, Try.ntmps43
    go_wp2_with fail
    go_ret
    exact ⟨rfl, Below.refl _ _⟩
  have h := H0.out
  rw [if_pos hll] at h
  have H1 := Lib.hid h
  have d1 : ((l0.length : Int) == (l1.length : Int)) = true := beq_iff_eq.mpr hll
  have d2 : ((l0.length : Int) != (l1.length : Int)) = false := bne_eq_false_iff_eq.mpr hll
  clear h H0
  have HLE := Lib.hid (show l0.length = l1.length by omega)
  clear hll
  have HB0 := Aside0.mk (Below.refl w.heap.size w)
  go_enter Try.func43, Try.ntmps43
  go_wp2_with fail
  clear d1 d2
  go_loopw [17] (fun v wr => ∃ (i : Nat), v = .int .i64 i ∧ i ≤ l0.length ∧ Hid (quote_Same.go k (l0.drop i) (l1.drop i) = some r) ∧ Aside0 (Below w.heap.size w wr)) (fun v _ => match v with | .int _ n => l0.length - n.toNat | _ => 0)
  case atStart => exact ⟨0, rfl, Nat.zero_le _, H1, HB0⟩
  case round =>
    obtain ⟨i, rfl, hi, HG, HB⟩ := hrel
    clear H1 HB0
    have hgo := HG.out
    clear HG
    by_cases hlt : i < l0.length
    case neg =>
      obtain rfl : i = l0.length := by omega
      rw [List.drop_length, quote_Same.go] at hgo
      injection hgo with hgo
      subst hgo
      go_wp2_with fail
      go_ret
      exact ⟨rfl, HB.out⟩
      all_goals simp
    have hlt1 : i < l1.length := by have := HLE.out; omega
    rw [quote_Same.drop35 l0 i hlt, quote_Same.drop35 l1 i hlt1, quote_Same.go] at hgo
    obtain ⟨ad, C0, m0, rfl, e0, e1, hn0, hC0⟩ := at_T35 HR0.out (i : Int) (by omega) (by omega)
    obtain ⟨bd, C1, m1, rfl, f0, f1, hn1, hC1⟩ := at_T35 HR1.out (i : Int) (by omega) (by have := HLE.out; omega)
    simp only [Int.toNat_natCast] at e0 e1 f0 f1
    generalize rd_T35 l0 (i : Int) = x at hgo e0 e1 hn0 hC0
    generalize rd_T35 l1 (i : Int) = y at hgo f0 f1 hn1 hC1
    have HX := Aside0.mk hC0
    have HY := Aside0.mk hC1
    clear hC0 hC1
    obtain ⟨b, hb, hgo⟩ := Option.bind_eq_some_iff.mp hgo
    have HO := Lib.hid hb
    have HG := Lib.hid hgo
    clear hb hgo
    obtain ⟨x0, x1⟩ := x
    obtain ⟨y0, y1⟩ := y
    simp only at e0 e1 f0 f1 hn0 hn1 HX HY
    replace e0 := (HB.out.cell (World.block_lt_of_cell? w _ e0)).trans e0
    replace e1 := (HB.out.cell (World.block_lt_of_cell? w _ e1)).trans e1
    have B1 := Aside0.mk (below_alloc HB.out (Obj.cells #[.string x0, .slice C0 x1.length m0] 35))
    have f0' := (B1.out.cell (World.block_lt_of_cell? w _ f0)).trans f0
    have f1' := (B1.out.cell (World.block_lt_of_cell? w _ f1)).trans f1
    have B2 := Aside0.mk (below_alloc B1.out (Obj.cells #[.string y0, .slice C1 y1.length m1] 35))
    have h0 : ((wr.alloc (Obj.cells #[.string x0, .slice C0 x1.length m0] 35)).alloc (Obj.cells #[.string y0, .slice C1 y1.length m1] 35)).heap[wr.heap.size]? = _ := (Lib.alloc_old _ _ _ (by simp)).trans (heap_alloc_new wr (Obj.cells #[.string x0, .slice C0 x1.length m0] 35))
    have h1 := heap_alloc_new (wr.alloc (Obj.cells #[.string x0, .slice C0 x1.length m0] 35)) (Obj.cells #[.string y0, .slice C1 y1.length m1] 35)
    have hlt' : (i : Int) < (l0.length : Int) := by omega
    have hlt1' : (i : Int) < (l1.length : Int) := by have := HLE.out; omega
    clear HB f0 f1
    go_upto_region 7 with (fail)
    have hs : (wr.alloc (Obj.cells #[.string x0, .slice C0 x1.length m0] 35)).heap.size = wr.heap.size + 1 := by simp
    rw [hs] at h1
    generalize ((wr.alloc (Obj.cells #[.string x0, .slice C0 x1.length m0] 35)).alloc (Obj.cells #[.string y0, .slice C1 y1.length m1] 35)) = W at h0 h1 B2 ⊢
    have u0 := Lib.cell_of_heap h0 0
    have u1 := Lib.cell_of_heap h0 1
    have v0 := Lib.cell_of_heap h1 0
    have v1 := Lib.cell_of_heap h1 1
    clear h0 h1 hs e0 e1 f0' f1' B1
    go_wp2_with fail
    refine (quote_Same.lit k ⟨x0, x1⟩ ⟨y0, y1⟩ C0 m0 C1 m1 b _ (Kd.C_below HX.out B2.out) hn0 (Kd.C_below HY.out B2.out) hn1 HO.out).mono ?_
    rintro e W3 ⟨rfl, hb3⟩
    have B3 := Aside0.mk (B2.out.trans (hb3.mono B2.out.size))
    clear hb3 u0 u1 v0 v1
    have hgo := HG.out
    cases b with
    | false =>
      rw [if_neg (by simp)] at hgo
      injection hgo with hgo
      subst hgo
      go_wp2_with fail
      go_ret
      exact ⟨rfl, B3.out⟩
    | true =>
      rw [if_pos rfl] at hgo
      have HG := Lib.hid hgo
      clear hgo
      go_wp2_with fail
      exact ⟨⟨i + 1, by push_cast; rfl, hlt, HG, B3⟩, by show l0.length - (((i : Int) + 1)).toNat < l0.length - ((i : Int)).toNat; omega⟩
set_option maxHeartbeats 4000000 in
set_option maxRecDepth 100000 in
theorem quote_Same.calls (k : Nat) (A0 : Option Addr) (c0 : Nat) (l0 : List S35) (A1 : Option Addr) (c1 : Nat) (l1 : List S35) (r : Bool) (w : World) (hr0 : Kd.C k35 w A0 l0.length l0) (hc0 : l0.length ≤ c0) (hr1 : Kd.C k35 w A1 l1.length l1) (hc1 : l1.length ≤ c1) (h : quote_Same.f k l0 l1 = some r) :
    Calls Try.prog 20 #[.slice A0 l0.length c0, .slice A1 l1.length c1] w fun e w' => e = .returned (.bool r) ∧ Below w.heap.size w w' := by
  go_enter Try.func20, Try.ntmps20
  go_wp2_with fail
  refine (quote_Same.eqf k A0 c0 l0 A1 c1 l1 r _ hr0 hc0 hr1 hc1 h).mono ?_
  rintro e w' ⟨rfl, hb⟩
  go_wp2_with fail
  go_ret
  exact ⟨rfl, hb⟩

/-! ### gonglaw10_works: function 8 -/
def gonglaw10_works.f (k : Nat)  : Option (Bool) := (quote_Parse.f k (⟨#[91, 97, 32, 98, 61, 34, 99, 92, 93, 34, 93, 120]⟩ : ByteArray)).bind fun bt150 => (if bt150.2.2 = 0 then (if bt150.2.1.toList = ([120] : List UInt8) then ((quote_Same.f k bt150.1 (([(⟨(⟨#[97]⟩ : ByteArray), (([(⟨(⟨#[98]⟩ : ByteArray), (⟨#[99, 93]⟩ : ByteArray)⟩ : S37)] : List (S37)))⟩ : S35)] : List (S35)))).bind fun t161 => (some t161)) else (some false)) else (some false))
theorem gonglaw10_works.mono : ∀ k, LeO (gonglaw10_works.f k ) (gonglaw10_works.f (k + 1) ) := by
  intro  k
  unfold gonglaw10_works.f
  repeat' first
      | (with_reducible exact quote_Parse.mono _ _)
      | (with_reducible exact quote_Same.mono _ _ _)
      | (with_reducible exact LeO.refl _)
      | (with_reducible exact LeO.none _)
      | (with_reducible refine LeO.ite ?_ ?_)
      | (with_reducible refine LeO.bind ?_ (fun _ => ?_))
      | exact quote_Parse.mono _ _
      | exact quote_Same.mono _ _ _
      | exact LeO.none _
      | refine LeO.ite ?_ ?_
      | refine LeO.bind ?_ (fun _ => ?_)
set_option maxHeartbeats 8000000 in
set_option maxRecDepth 100000 in
theorem gonglaw10_works.calls (k : Nat)  (r : Bool) (w : World) (h : gonglaw10_works.f k  = some r) :
    Calls Try.prog 8 #[] w fun e w' => e = .returned (.bool r) ∧ Below w.heap.size w w' := by
  have hu37 := Try.underlying37
  have hu35 := Try.underlying35
  have HB := Aside0.mk (Below.refl w.heap.size w)
  have H : ((quote_Parse.f k (⟨#[91, 97, 32, 98, 61, 34, 99, 92, 93, 34, 93, 120]⟩ : ByteArray)).bind fun bt150 => (if bt150.2.2 = 0 then (if bt150.2.1.toList = ([120] : List UInt8) then ((quote_Same.f k bt150.1 (([(⟨(⟨#[97]⟩ : ByteArray), (([(⟨(⟨#[98]⟩ : ByteArray), (⟨#[99, 93]⟩ : ByteArray)⟩ : S37)] : List (S37)))⟩ : S35)] : List (S35)))).bind fun t161 => (some t161)) else (some false)) else (some false))) = some r := h
  clear h
  replace H := Option.bind_eq_some_iff.mp H
  obtain ⟨⟨t150, t151, t152⟩, A10, H⟩ := H
  replace H : (if t152 = 0 then (if t151.toList = ([120] : List UInt8) then ((quote_Same.f k t150 (([(⟨(⟨#[97]⟩ : ByteArray), (([(⟨(⟨#[98]⟩ : ByteArray), (⟨#[99, 93]⟩ : ByteArray)⟩ : S37)] : List (S37)))⟩ : S35)] : List (S35)))).bind fun t161 => (some t161)) else (some false)) else (some false)) = some r := H
  have A1 := Aside0.mk A10
  clear A10
  by_cases c2 : t152 = 0
  · rw [if_pos c2] at H
    have c2b0 : (t152 == 0) = true := beq_iff_eq.mpr c2
    have c2b1 : (t152 != 0) = false := bne_eq_false_iff_eq.mpr c2
    clear c2
    by_cases c3 : t151.toList = ([120] : List UInt8)
    · rw [if_pos c3] at H
      have c3b0 : (t151.toList == ([120] : List UInt8)) = true := beq_iff_eq.mpr c3
      have c3b1 : (t151.toList != ([120] : List UInt8)) = false := bne_eq_false_iff_eq.mpr c3
      clear c3
      obtain ⟨y155, hy155⟩ : ∃ y_ : List (S37), y_ = (([(⟨(⟨#[98]⟩ : ByteArray), (⟨#[99, 93]⟩ : ByteArray)⟩ : S37)] : List (S37))) := ⟨_, rfl⟩
      replace H : ((quote_Same.f k t150 (([(⟨(⟨#[97]⟩ : ByteArray), y155⟩ : S35)] : List (S35)))).bind fun t161 => (some t161)) = some r := by first | (rw [hy155]; with_reducible exact H) | (have H2_ := (Option.bind_some _ _).symm.trans H; rw [hy155]; with_reducible exact H2_) | (have H2_ := (Option.bind_some _ _).symm.trans H; with_reducible exact H2_) | with_reducible exact H | (rw [hy155]; exact H) | exact H
      have Ny155 := Aside0.mk hy155
      clear hy155
      obtain ⟨y158, hy158⟩ : ∃ y_ : List (S35), y_ = (([(⟨(⟨#[97]⟩ : ByteArray), y155⟩ : S35)] : List (S35))) := ⟨_, rfl⟩
      replace H : ((quote_Same.f k t150 y158).bind fun t161 => (some t161)) = some r := by first | (rw [hy158]; with_reducible exact H) | (have H2_ := (Option.bind_some _ _).symm.trans H; rw [hy158]; with_reducible exact H2_) | (have H2_ := (Option.bind_some _ _).symm.trans H; with_reducible exact H2_) | with_reducible exact H | (rw [hy158]; exact H) | exact H
      have Ny158 := Aside0.mk hy158
      clear hy158
      replace H := Option.bind_eq_some_iff.mp H
      obtain ⟨t161, A40, H⟩ := H
      replace H : (some t161) = some r := H
      have A4 := Aside0.mk A40
      clear A40
      obtain rfl := Option.some.inj H
      go_enter Try.func8, Try.ntmps8
      go_wp2_with (first | ((with_reducible refine gate_callee (f := 9) rfl ?_); refine goesL_ (some 5) rfl rfl Try.func9 (by kernel_rfl) rfl #[.string (⟨#[91, 97, 32, 98, 61, 34, 99, 92, 93, 34, 93, 120]⟩ : ByteArray)] rfl (by (try simp only [List.map_toArray, List.map_cons, List.map_nil]); first | done | rfl | (simp only [List.length_drop, List.length_take]; rfl)) ?_; (with_reducible refine (quote_Parse.calls k (⟨#[91, 97, 32, 98, 61, 34, 99, 92, 93, 34, 93, 120]⟩ : ByteArray) t150 t151 t152 _ A1.out).mono ?_); rintro e w5 ⟨v153, rfl, ho0, hb⟩; refine ⟨_, rfl, ?_⟩; have n0_ := Aside0.mk (Kd.N_lower (Kd.N_mono (ok' := fun k_ => True) (Kd.S_N (Kd.S_bound ho0)) (fun k_ hk_ => trivial)) (below_size (by repeat (first | (with_reducible first | exact HB.out | apply below_alloc | apply pw_below_drewN | apply below_drew1) | exact HB.out)))); have n1_ := Aside0.mk (below_step (by repeat (first | (with_reducible first | exact HB.out | apply below_alloc | apply pw_below_drewN | apply below_drew1) | exact HB.out)) hb); clear HB; have HO154 := n0_; have HB := n1_; clear n0_ n1_; (try clear hb); (try clear hb2); (try clear hk); (try clear hi); (try clear ho0)) | ((with_reducible refine gate_dst (N := 18) rfl ?_); (try (refine gate_guard (by rfl) ?_; dsimp only)); refine Kd.R_lit k37 _ 37 ?hg (N := 18) ?hd (xs := ([(⟨(⟨#[98]⟩ : ByteArray), (⟨#[99, 93]⟩ : ByteArray)⟩ : S37)] : List (S37))) (inner := [.string (⟨#[98]⟩ : ByteArray), .string (⟨#[99, 93]⟩ : ByteArray)]) (ok := fun _ => True) (okp := fun _ => True) ?hr ?hp (fun _ hk => hk) trivial (Below.refl _ _) (Nat.le_refl _) (by simp) ?_; (case hd => rfl); (case hg => rfl); (case hr => first | (go_simp; done) | (go_simp; rfl)); (case hp => exact (Reps.c2 (show Kd.M k37 _ _ _ (⟨(⟨#[98]⟩ : ByteArray), (⟨#[99, 93]⟩ : ByteArray)⟩ : S37) [.string (⟨#[98]⟩ : ByteArray), .string (⟨#[99, 93]⟩ : ByteArray)] from (k37_mkM _ _ _ (⟨(⟨#[98]⟩ : ByteArray), (⟨#[99, 93]⟩ : ByteArray)⟩ : S37) )) (Reps.none _ _))); intro v156 w6 ho7 hb hg_ hnew_; clear hg_ hnew_; (first | rw [← Ny155.out] at ho7 | (simp only [Int.reduceToNat] at ho7; rw [← Ny155.out] at ho7)); have n0_ := Aside0.mk (Kd.N_elder' (by (with_reducible repeat (first | apply Kd.N_alloc | apply Kd.N_drewN | apply Kd.N_drew)); exact HO154.out) (Kd.R_base ho7) hb); have n1_ := Aside0.mk (Kd.R_lower ho7 (below_size (by repeat (first | (with_reducible first | exact HB.out | apply below_alloc | apply pw_below_drewN | apply below_drew1) | exact HB.out)))); have n2_ := Aside0.mk (below_step (by repeat (first | (with_reducible first | exact HB.out | apply below_alloc | apply pw_below_drewN | apply below_drew1) | exact HB.out)) hb); clear HO154; clear HB; have HO154 := n0_; have HO157 := n1_; have HB := n2_; clear n0_ n1_ n2_; clear hb ho7; obtain ⟨Ao8, co8, eo8⟩ := Kd.R_slice HO157.out; subst eo8) | ((with_reducible refine gate_dst (N := 20) rfl ?_); (try (refine gate_guard (by rfl) ?_; dsimp only)); refine Kd.N_lit k35 _ 35 ?hg (N' := 20) ?hd (xs := ([(⟨(⟨#[97]⟩ : ByteArray), y155⟩ : S35)] : List (S35))) (inner := [.string (⟨#[97]⟩ : ByteArray), .slice Ao8 y155.length co8]) (ok := (fun k_ => some k_ ≠ (v153 : Value).ownBlock)) (okp := (fun k_ => some k_ ≠ (v153 : Value).ownBlock)) ?hr ?hp (fun _ hk => hk) ((show ∀ k_, w6.heap.size ≤ k_ → (fun k_ => some k_ ≠ (v153 : Value).ownBlock) k_ from fun k_ hk => Kd.fresh' (Kd.N_lt (by (with_reducible repeat (first | apply Kd.N_alloc | apply Kd.N_drewN | apply Kd.N_drew)); exact HO154.out)) k_ hk) _ (Nat.le_refl _)) (Below.refl _ _) (Nat.le_refl _) (by simp) ?_; (case hd => rfl); (case hg => rfl); (case hr => first | (go_simp; done) | (go_simp; rfl)); (case hp => exact (Reps.c2 (show Kd.FK k35 _ _ (⟨(⟨#[97]⟩ : ByteArray), y155⟩ : S35) [.string (⟨#[97]⟩ : ByteArray), .slice Ao8 y155.length co8] from (k35_mkF _ _ (⟨(⟨#[97]⟩ : ByteArray), y155⟩ : S35) (Kd.R_reads' (Kd.R_mono (ok' := (fun k_ => some k_ ≠ (v153 : Value).ownBlock)) (Kd.R_apart' (HO157.out) (Kd.N_typed HO154.out) (by decide)) (fun k_ hk => hk.2))).2.1 (Kd.R_F (Kd.R_mono (ok' := (fun k_ => some k_ ≠ (v153 : Value).ownBlock)) (Kd.R_apart' (HO157.out) (Kd.N_typed HO154.out) (by decide)) (fun k_ hk => hk.2))))) (Reps.none _ _))); intro v159 w9 ho10 hb hg_ hnew_; clear hg_ hnew_; (first | rw [← Ny158.out] at ho10 | (simp only [Int.reduceToNat] at ho10; rw [← Ny158.out] at ho10)); have n0_ := Aside0.mk (Kd.N_elder' (by (with_reducible repeat (first | apply Kd.N_alloc | apply Kd.N_drewN | apply Kd.N_drew)); exact HO154.out) (Kd.N_base ho10) hb); have n1_ := Aside0.mk (Kd.N_lower ho10 (below_size (by repeat (first | (with_reducible first | exact HB.out | apply below_alloc | apply pw_below_drewN | apply below_drew1) | exact HB.out)))); have n2_ := Aside0.mk (below_step (by repeat (first | (with_reducible first | exact HB.out | apply below_alloc | apply pw_below_drewN | apply below_drew1) | exact HB.out)) hb); clear HO154; clear HB; clear HO157; have HO154 := n0_; have HO160 := n1_; have HB := n2_; clear n0_ n1_ n2_; clear hb ho10; obtain ⟨Ao11, co11, eo11⟩ := Kd.N_slice HO154.out; subst eo11; obtain ⟨Ao12, co12, eo12⟩ := Kd.N_slice HO160.out; subst eo12) | (go_at_call 20; (with_reducible refine (quote_Same.calls k _ _ t150 _ _ y158 t161 _ ?side1 ?side2 ?side3 ?side4 A4.out).mono ?_); (case side1 => repeat (first | exact (Kd.N_reads' HO154.out).2.2 | (with_reducible refine Kd.C_alloc ?_ _) | (with_reducible refine Kd.C_drewN ?_ _) | (with_reducible refine Kd.C_drew ?_))); (case side2 => exact (Kd.N_reads' HO154.out).2.1); (case side3 => repeat (first | exact (Kd.N_reads' HO160.out).2.2 | (with_reducible refine Kd.C_alloc ?_ _) | (with_reducible refine Kd.C_drewN ?_ _) | (with_reducible refine Kd.C_drew ?_))); (case side4 => exact (Kd.N_reads' HO160.out).2.1); rintro e w13 ⟨rfl, hb⟩; have n0_ := Aside0.mk (Kd.N_below (by (with_reducible repeat (first | apply Kd.N_alloc | apply Kd.N_drewN | apply Kd.N_drew)); exact HO154.out) hb); have n1_ := Aside0.mk (Kd.N_below (by (with_reducible repeat (first | apply Kd.N_alloc | apply Kd.N_drewN | apply Kd.N_drew)); exact HO160.out) hb); have n2_ := Aside0.mk (below_step (by repeat (first | (with_reducible first | exact HB.out | apply below_alloc | apply pw_below_drewN | apply below_drew1) | exact HB.out)) hb); clear HO154; clear HO160; clear HB; have HO154 := n0_; have HO160 := n1_; have HB := n2_; clear n0_ n1_ n2_; (try clear hb); (try clear hb2); (try clear hk); (try clear hi)))
      go_ret
      exact ⟨by first | rfl | (simp [errW_none, errW_some] <;> rfl) | (simp [*, errW_none, errW_some] <;> rfl), by repeat (first | (with_reducible first | exact HB.out | apply below_alloc | apply pw_below_drewN | apply below_drew1) | exact HB.out)⟩
    · rw [if_neg c3] at H
      have c3b0 : (t151.toList == ([120] : List UInt8)) = false := beq_eq_false_iff_ne.mpr c3
      have c3b1 : (t151.toList != ([120] : List UInt8)) = true := bne_iff_ne.mpr c3
      obtain rfl := Option.some.inj H
      go_enter Try.func8, Try.ntmps8
      go_wp2_with (first | ((with_reducible refine gate_callee (f := 9) rfl ?_); refine goesL_ (some 5) rfl rfl Try.func9 (by kernel_rfl) rfl #[.string (⟨#[91, 97, 32, 98, 61, 34, 99, 92, 93, 34, 93, 120]⟩ : ByteArray)] rfl (by (try simp only [List.map_toArray, List.map_cons, List.map_nil]); first | done | rfl | (simp only [List.length_drop, List.length_take]; rfl)) ?_; (with_reducible refine (quote_Parse.calls k (⟨#[91, 97, 32, 98, 61, 34, 99, 92, 93, 34, 93, 120]⟩ : ByteArray) t150 t151 t152 _ A1.out).mono ?_); rintro e w14 ⟨v153, rfl, ho0, hb⟩; refine ⟨_, rfl, ?_⟩; have n0_ := Aside0.mk (Kd.N_lower (Kd.N_mono (ok' := fun k_ => True) (Kd.S_N (Kd.S_bound ho0)) (fun k_ hk_ => trivial)) (below_size (by repeat (first | (with_reducible first | exact HB.out | apply below_alloc | apply pw_below_drewN | apply below_drew1) | exact HB.out)))); have n1_ := Aside0.mk (below_step (by repeat (first | (with_reducible first | exact HB.out | apply below_alloc | apply pw_below_drewN | apply below_drew1) | exact HB.out)) hb); clear HB; have HO154 := n0_; have HB := n1_; clear n0_ n1_; (try clear hb); (try clear hb2); (try clear hk); (try clear hi); (try clear ho0)))
      go_ret
      exact ⟨by first | rfl | (simp [errW_none, errW_some] <;> rfl) | (simp [*, errW_none, errW_some] <;> rfl), by repeat (first | (with_reducible first | exact HB.out | apply below_alloc | apply pw_below_drewN | apply below_drew1) | exact HB.out)⟩
  · rw [if_neg c2] at H
    have c2b0 : (t152 == 0) = false := beq_eq_false_iff_ne.mpr c2
    have c2b1 : (t152 != 0) = true := bne_iff_ne.mpr c2
    obtain rfl := Option.some.inj H
    go_enter Try.func8, Try.ntmps8
    go_wp2_with (first | ((with_reducible refine gate_callee (f := 9) rfl ?_); refine goesL_ (some 5) rfl rfl Try.func9 (by kernel_rfl) rfl #[.string (⟨#[91, 97, 32, 98, 61, 34, 99, 92, 93, 34, 93, 120]⟩ : ByteArray)] rfl (by (try simp only [List.map_toArray, List.map_cons, List.map_nil]); first | done | rfl | (simp only [List.length_drop, List.length_take]; rfl)) ?_; (with_reducible refine (quote_Parse.calls k (⟨#[91, 97, 32, 98, 61, 34, 99, 92, 93, 34, 93, 120]⟩ : ByteArray) t150 t151 t152 _ A1.out).mono ?_); rintro e w15 ⟨v153, rfl, ho0, hb⟩; refine ⟨_, rfl, ?_⟩; have n0_ := Aside0.mk (Kd.N_lower (Kd.N_mono (ok' := fun k_ => True) (Kd.S_N (Kd.S_bound ho0)) (fun k_ hk_ => trivial)) (below_size (by repeat (first | (with_reducible first | exact HB.out | apply below_alloc | apply pw_below_drewN | apply below_drew1) | exact HB.out)))); have n1_ := Aside0.mk (below_step (by repeat (first | (with_reducible first | exact HB.out | apply below_alloc | apply pw_below_drewN | apply below_drew1) | exact HB.out)) hb); clear HB; have HO154 := n0_; have HB := n1_; clear n0_ n1_; (try clear hb); (try clear hb2); (try clear hk); (try clear hi); (try clear ho0)))
    go_ret
    exact ⟨by first | rfl | (simp [errW_none, errW_some] <;> rfl) | (simp [*, errW_none, errW_some] <;> rfl), by repeat (first | (with_reducible first | exact HB.out | apply below_alloc | apply pw_below_drewN | apply below_drew1) | exact HB.out)⟩

end Go.Proofs.Ytgopphglkjdcaaa.Px
