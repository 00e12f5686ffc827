-- Laid by wip/hprint.py: the kit's print of the translation, turned in places, beside contracts that this session wrote by hand; Lean checks all of it.
import Derived.Test.YtgopphglkjdcaaaPx0
import Derived.Test.YtgopphglkjdcaaaPx6
import Derived.Test.YtgopphglkjdcaaaPx18
namespace Go.Proofs.Ytgopphglkjdcaaa.Px
open Go.RowKit Go.Proofs.YtgopphglkjdcaaaW.PrintWords Go.Proofs.YtgopphglkjdcaaaW.PrintLast Go.Proofs.YtgopphglkjdcaaaW.PrintMore
attribute [local go_sem] max2_int min2_int max_two min_two max_three min_three max_four min_four   -- for this text's walks alone
set_option linter.unusedVariables false
set_option linter.unusedSimpArgs false

/-! ### quote_Escape: function 14, by hand -/
def quote_Escape.one (y : UInt8) : List UInt8 := if (y.toNat : Int) = 34 ∨ (y.toNat : Int) = 93 ∨ (y.toNat : Int) = 92 then [92, y] else [y]
def quote_Escape.all (l : List UInt8) : List UInt8 := l.flatMap quote_Escape.one
def quote_Escape.f (a0 : ByteArray) : Option ByteArray := if a0.size ≤ 1073741824 then some ⟨(quote_Escape.all a0.data.toList).toArray⟩ else none
theorem quote_Escape.one_length (y : UInt8) : (quote_Escape.one y).length ≤ 2 := by
  unfold quote_Escape.one
  split <;> simp
theorem quote_Escape.all_length (l : List UInt8) : (quote_Escape.all l).length ≤ 2 * l.length := by
  unfold quote_Escape.all
  induction l with
  | nil => simp
  | cons a l ih => rw [List.flatMap_cons, List.length_append, List.length_cons]; have := quote_Escape.one_length a; omega
theorem quote_Escape.all_snoc (l : List UInt8) (i : Nat) (hi : i < l.length) : quote_Escape.all (l.take (i + 1)) = quote_Escape.all (l.take i) ++ quote_Escape.one (l.getD i 0) := by
  unfold quote_Escape.all
  rw [List.take_succ_eq_append_getElem hi, List.flatMap_append, List.flatMap_singleton, List.getD_eq_getElem?_getD, List.getElem?_eq_getElem hi, Option.getD_some]
theorem quote_Escape.spec (y : UInt8) : quote_special.f (y.toNat : Int) = some (decide ((y.toNat : Int) = 34 ∨ (y.toNat : Int) = 93 ∨ (y.toNat : Int) = 92)) := by
  unfold quote_special.f
  by_cases h1 : (y.toNat : Int) = 34
  · rw [if_pos h1, decide_eq_true (.inl h1)]
  rw [if_neg h1]
  by_cases h2 : (y.toNat : Int) = 93
  · rw [if_pos h2, decide_eq_true (.inr (.inl h2))]
  rw [if_neg h2]
  by_cases h3 : (y.toNat : Int) = 92
  · rw [if_pos h3, decide_eq_true (.inr (.inr h3))]
  rw [if_neg h3, decide_eq_false (by omega)]
set_option maxHeartbeats 4000000 in
set_option maxRecDepth 100000 in
theorem quote_Escape.calls (a0 : ByteArray) (r : ByteArray) (w : World) (h : quote_Escape.f a0 = some r) :
    Calls Try.prog 14 #[.string a0] w fun e w' => e = .returned (.string r) ∧ Below w.heap.size w w' := by
  unfold quote_Escape.f at h
  by_cases hs : a0.size ≤ 1073741824
  case neg => rw [if_neg hs] at h; cases h
  rw [if_pos hs] at h
  injection h with h
  have HR := Lib.hid h
  clear h
  go_enter Try.func14, Try.ntmps14
  have hi1 : Lib.IsBuilder Bld.T 5 w.heap.size w.heap.size (Lib.byteCells []) (w.alloc (.cells #[.pointer none, .slice none 0 0] 59)) := Lib.fresh_isBuilder Bld.T 5 w
  have hbb := (Below.refl w.heap.size w).alloc (Nat.le_refl _) (.cells #[.pointer none, .slice none 0 0] 59)
  go_upto_region 2 with (fail)
  generalize w.alloc (.cells #[.pointer none, .slice none 0 0] 59) = w1 at hi1 hbb ⊢
  have kc := Lib.run_convert_string_bytes (P := Try.prog) w1 9 55 5 a0 Try.underlying9 Try.underlying55 Try.underlying5
  have hcells := fun j hj => Lib.bytesWorld_cell w1 5 a0 j hj
  have hbel := Go.Proofs.Ytgopphglkjdcaaa.BR.bytesWorld_below w1 5 a0
  have hap := Bld.apart_next hi1 (fun k hk => Lib.bytesWorld_at_old w1 5 a0 k hk) (by rw [Lib.bytesWorld_size]; omega)
  have hi2 := Bld.move hi1 (fun k hk => Lib.bytesWorld_at_old w1 5 a0 k hk)
  have hb2 := hbb.trans (hbel.mono hbb.size)
  generalize hF : w1.heap.size = F at kc hcells hap
  generalize Lib.bytesWorld w1 5 a0 = W2 at kc hcells hbel hap hi2 hb2
  generalize grownCap w1 a0.size 0 5 = c0 at kc
  have HI := Aside0.mk hi2
  have HA := Aside0.mk hap
  have HC := Aside0.mk hcells
  have HB := Aside0.mk hb2
  clear hi1 hbb hbel hi2 hap hcells hb2 hF
  go_wp2_with fail
  go_loopw [9] (fun v wr => ∃ i : Nat, v = .int .i64 i ∧ i ≤ a0.size ∧ Aside0 (Lib.IsBuilder Bld.T 5 w.heap.size w.heap.size (Lib.byteCells (quote_Escape.all (a0.data.toList.take i))) wr) ∧ Aside0 (Bld.Apart w.heap.size F wr) ∧ Aside0 (wr.heap[F]? = W2.heap[F]?) ∧ Aside0 (Below w.heap.size w wr)) (fun v _ => match v with | .int _ n => a0.size - n.toNat | _ => 0)
  case atStart => exact ⟨0, rfl, Nat.zero_le _, HI, HA, ⟨rfl⟩, HB⟩
  case round =>
    obtain ⟨i, rfl, hi, HI', HA', HF', HB'⟩ := hrel
    clear HI HA HB
    have hw : w.heap.size ≤ wr.heap.size := HB'.out.size
    have hal := quote_Escape.all_length (a0.data.toList.take i)
    rw [List.length_take] at hal
    have hsz : (Lib.byteCells (quote_Escape.all (a0.data.toList.take i))).length + 10 ≤ 140737488355328 := by rw [Lib.byteCells_length]; omega
    clear hal
    have HSZ := Lib.hid hsz
    clear hsz
    by_cases hlt : i < a0.size
    · have hlt' : (i : Int) < (a0.size : Int) := by omega
      have hcell : wr.cell? ⟨F, i, none⟩ = some (.int .u8 ((a0.data.toList.getD i 0).toNat : Int)) := by
        have := HC.out i hlt
        rw [World.cell?] at this ⊢
        rw [HF'.out]
        exact this
      have hsn := quote_Escape.all_snoc a0.data.toList i (by simpa using hlt)
      generalize hy : a0.data.toList.getD i 0 = y at hcell hsn
      have hyb := y.toNat_lt
      have HS := Lib.hid hsn
      clear hsn hy
      have hsp := quote_Escape.spec y
      have FIN := Lib.hid (show ∀ (X : List UInt8) (W : World), quote_Escape.one y = X → Lib.IsBuilder Bld.T 5 w.heap.size w.heap.size (Lib.byteCells (quote_Escape.all (a0.data.toList.take i)) ++ Lib.byteCells X) W → Lib.IsBuilder Bld.T 5 w.heap.size w.heap.size (Lib.byteCells (quote_Escape.all (a0.data.toList.take (i + 1)))) W from fun X W e h => by rw [HS.out, Lib.byteCells_append, e]; exact h)
      clear HS
      by_cases hc : (y.toNat : Int) = 34 ∨ (y.toNat : Int) = 93 ∨ (y.toNat : Int) = 92
      · rw [decide_eq_true hc] at hsp
        have HSP := Lib.hid hsp
        have E := Lib.hid (show quote_Escape.one y = [92, y] by unfold quote_Escape.one; rw [if_pos hc])
        clear hsp hc
        go_wp2_with (first | (go_at_call 34; refine (quote_special.calls (y.toNat : Int) true _ HSP.out).mono ?_; rintro e w' ⟨rfl, ⟨nd2, rfl⟩⟩))
        refine (Bld.writeByte2 w.heap.size w.heap.size (Lib.byteCells (quote_Escape.all (a0.data.toList.take i))) 92 _ (Bld.drewN HI'.out _) (by have := HSZ.out; omega) (by exact hw)).mono ?_
        rintro e w3 ⟨rfl, hi3, hb3, hst3⟩
        have hw3 : w.heap.size ≤ w3.heap.size := Nat.le_trans hw hb3.size
        have I3 := Aside0.mk hi3
        have B3 := Aside0.mk hb3
        have S3 := Aside0.mk hst3
        clear hi3 hb3 hst3
        go_wp2_with fail
        refine (Bld.writeByte2 w.heap.size w.heap.size ((Lib.byteCells (quote_Escape.all (a0.data.toList.take i))) ++ [.int .u8 92]) (y.toNat : Int) _ I3.out (by have := HSZ.out; simp only [List.length_append, List.length_cons, List.length_nil]; omega) (by exact hw3)).mono ?_
        rintro e w' ⟨rfl, hi, hb, hst2⟩
        have hst := S3.out.trans hst2
        have hB := B3.out.trans hb
        go_wp2_with fail
        exact ⟨⟨i + 1, by push_cast; rfl, hlt, ⟨FIN.out _ _ E.out (by rw [List.append_assoc] at hi; exact hi)⟩, ⟨(hst.2 F (HA'.out.drewN _)).1⟩, ⟨(hst.2 F (HA'.out.drewN _)).2.trans HF'.out⟩, ⟨(pw_below_drewN HB'.out _).trans hB⟩⟩, by show a0.size - (((i : Int) + 1)).toNat < a0.size - ((i : Int)).toNat; omega⟩
      · rw [decide_eq_false hc] at hsp
        have HSP := Lib.hid hsp
        have E := Lib.hid (show quote_Escape.one y = [y] by unfold quote_Escape.one; rw [if_neg hc])
        clear hsp hc
        go_wp2_with (first | (go_at_call 34; refine (quote_special.calls (y.toNat : Int) false _ HSP.out).mono ?_; rintro e w' ⟨rfl, ⟨nd2, rfl⟩⟩))
        refine (Bld.writeByte2 w.heap.size w.heap.size (Lib.byteCells (quote_Escape.all (a0.data.toList.take i))) (y.toNat : Int) _ (Bld.drewN HI'.out _) (by have := HSZ.out; omega) (by exact hw)).mono ?_
        rintro e w' ⟨rfl, hi, hb, hst⟩
        go_wp2_with fail
        exact ⟨⟨i + 1, by push_cast; rfl, hlt, ⟨FIN.out _ _ E.out hi⟩, ⟨(hst.2 F (HA'.out.drewN _)).1⟩, ⟨(hst.2 F (HA'.out.drewN _)).2.trans HF'.out⟩, ⟨(pw_below_drewN HB'.out _).trans hb⟩⟩, by show a0.size - (((i : Int) + 1)).toNat < a0.size - ((i : Int)).toNat; omega⟩
    · obtain rfl : i = a0.size := by omega
      have ht : a0.data.toList.take a0.size = a0.data.toList := List.take_of_length_le (by simp)
      rw [ht] at HI' HSZ
      go_wp2_with fail
      refine (Try.Builder_String_any w.heap.size w.heap.size (quote_Escape.all a0.data.toList) _ HI'.out HB'.out.size).mono ?_
      rintro e w6 ⟨rfl, hb6⟩
      have hb7 := HB'.out.trans hb6
      go_wp2_with fail
      go_ret
      exact ⟨by rw [HR.out]; rfl, hb7⟩

/-! ### gongref10_Escape: function 15 -/
def gongref10_Escape.l0 : Nat → ByteArray → ByteArray → Int → Option (ByteArray)
  | 0, _, _, _ => none
  | k + 1, x0, x3, x4 => if x4 < (x0.size : Int) then (if 0 ≤ x4 then ((gongref10_special.f (bt x0 x4)).bind fun t230 => (if t230 = true then (if x3.size + 1 ≤ 9223372036854775807 then (if x4 ≤ (wrap64 (x4 + 1)) then (if (wrap64 (x4 + 1)) ≤ (x0.size : Int) then (if (x3 ++ (⟨#[92]⟩ : ByteArray)).size + (x0.extract (x4 : Int).toNat ((wrap64 (x4 + 1)) : Int).toNat).size ≤ 9223372036854775807 then (gongref10_Escape.l0 k x0 ((x3 ++ (⟨#[92]⟩ : ByteArray)) ++ (x0.extract (x4 : Int).toNat ((wrap64 (x4 + 1)) : Int).toNat)) (wrap64 (x4 + 1))) else (none)) else (none)) else (none)) else (none)) else (if x4 ≤ (wrap64 (x4 + 1)) then (if (wrap64 (x4 + 1)) ≤ (x0.size : Int) then (if x3.size + (x0.extract (x4 : Int).toNat ((wrap64 (x4 + 1)) : Int).toNat).size ≤ 9223372036854775807 then (gongref10_Escape.l0 k x0 (x3 ++ (x0.extract (x4 : Int).toNat ((wrap64 (x4 + 1)) : Int).toNat)) (wrap64 (x4 + 1))) else (none)) else (none)) else (none)))) else (none)) else (some x3)
def gongref10_Escape.f (k : Nat) (a0 : ByteArray) : Option (ByteArray) := gongref10_Escape.l0 k a0 (⟨#[]⟩ : ByteArray) 0
theorem gongref10_Escape.mono_l : ∀ k, (∀ y0 y1 y2, LeO (gongref10_Escape.l0 k y0 y1 y2) (gongref10_Escape.l0 (k + 1) y0 y1 y2))
  | 0 => fun _ _ _ r h => by simp [gongref10_Escape.l0] at h
  | k + 1 => by
    have ih0 := gongref10_Escape.mono_l k
    · intro y0 y1 y2
      unfold gongref10_Escape.l0
      repeat' first
      | (with_reducible exact ih0 _ _ _)
      | (with_reducible exact LeO.refl _)
      | (with_reducible exact LeO.none _)
      | (with_reducible refine LeO.ite ?_ ?_)
      | (with_reducible refine LeO.bind ?_ (fun _ => ?_))
      | exact ih0 _ _ _
      | exact LeO.none _
      | refine LeO.ite ?_ ?_
      | refine LeO.bind ?_ (fun _ => ?_)
theorem gongref10_Escape.mono : ∀ a0 k, LeO (gongref10_Escape.f k a0) (gongref10_Escape.f (k + 1) a0) := by
  intro a0 k
  have ih0 := gongref10_Escape.mono_l k
  unfold gongref10_Escape.f
  repeat' first
      | (with_reducible exact ih0 _ _ _)
      | (with_reducible exact LeO.refl _)
      | (with_reducible exact LeO.none _)
      | (with_reducible refine LeO.ite ?_ ?_)
      | (with_reducible refine LeO.bind ?_ (fun _ => ?_))
      | exact ih0 _ _ _
      | exact LeO.none _
      | refine LeO.ite ?_ ?_
      | refine LeO.bind ?_ (fun _ => ?_)
set_option maxHeartbeats 8000000 in
set_option maxRecDepth 100000 in
theorem gongref10_Escape.calls (k : Nat) (a0 : ByteArray) (r : ByteArray) (w : World) (h : gongref10_Escape.f k a0 = some r) :
    Calls Try.prog 15 #[.string a0] w fun e w' => e = .returned (.string r) ∧ Drawn0 w w' := by
  have H : (gongref10_Escape.l0 k a0 (⟨#[]⟩ : ByteArray) 0) = some r := h
  clear h
  have H' := Aside0.mk H
  clear H
  go_enter Try.func15, Try.ntmps15
  go_wp2
  go_loopg [3, 4] k (fun kq v3 v4 w' => ∃ (x3_1 : ByteArray) (x4_1 : Int), v3 = .string x3_1 ∧ v4 = .int .i64 x4_1 ∧ Aside0 (gongref10_Escape.l0 kq a0 x3_1 x4_1 = some r) ∧ Aside0 (kq ≤ k) ∧ Drawn0 w w')
  case atStart => exact ⟨((⟨#[]⟩ : ByteArray)), (0), (by first | rfl | (simp; done) | (simp [*]; done)), (by first | rfl | (simp; done) | (simp [*]; done)), H', ⟨Nat.le_refl _⟩, by repeat (first | exact Drawn0.refl _ | apply Drawn0.step)⟩
  case round =>
    clear H'
    try clear c1
    obtain ⟨x3_1, x4_1, rfl, rfl, HA, HK1, ⟨m1, rfl⟩⟩ := hrel
    cases gk with
    | zero => exact absurd HA.out (by simp [gongref10_Escape.l0])
    | succ k1 =>
      have H := HA.out
      clear HA
      simp only [gongref10_Escape.l0] at H
      by_cases c2 : x4_1 < (a0.size : Int)
      · rw [if_pos c2] at H
        have c2b0 : decide (x4_1 < (a0.size : Int)) = true := decide_eq_true c2
        clear c2
        by_cases c3 : 0 ≤ x4_1
        · rw [if_pos c3] at H
          have c3b0 : decide (0 ≤ x4_1) = true := decide_eq_true c3
          clear c3
          replace H := Option.bind_eq_some_iff.mp H
          obtain ⟨t230, A50, H⟩ := H
          replace H : (if t230 = true then (if x3_1.size + 1 ≤ 9223372036854775807 then (if x4_1 ≤ (wrap64 (x4_1 + 1)) then (if (wrap64 (x4_1 + 1)) ≤ (a0.size : Int) then (if (x3_1 ++ (⟨#[92]⟩ : ByteArray)).size + (a0.extract (x4_1 : Int).toNat ((wrap64 (x4_1 + 1)) : Int).toNat).size ≤ 9223372036854775807 then (gongref10_Escape.l0 k1 a0 ((x3_1 ++ (⟨#[92]⟩ : ByteArray)) ++ (a0.extract (x4_1 : Int).toNat ((wrap64 (x4_1 + 1)) : Int).toNat)) (wrap64 (x4_1 + 1))) else (none)) else (none)) else (none)) else (none)) else (if x4_1 ≤ (wrap64 (x4_1 + 1)) then (if (wrap64 (x4_1 + 1)) ≤ (a0.size : Int) then (if x3_1.size + (a0.extract (x4_1 : Int).toNat ((wrap64 (x4_1 + 1)) : Int).toNat).size ≤ 9223372036854775807 then (gongref10_Escape.l0 k1 a0 (x3_1 ++ (a0.extract (x4_1 : Int).toNat ((wrap64 (x4_1 + 1)) : Int).toNat)) (wrap64 (x4_1 + 1))) else (none)) else (none)) else (none))) = some r := H
          have A5 := Aside0.mk A50
          clear A50
          by_cases c6 : t230 = true
          · subst c6
            have H1 : (if x3_1.size + 1 ≤ 9223372036854775807 then (if x4_1 ≤ (wrap64 (x4_1 + 1)) then (if (wrap64 (x4_1 + 1)) ≤ (a0.size : Int) then (if (x3_1 ++ (⟨#[92]⟩ : ByteArray)).size + (a0.extract (x4_1 : Int).toNat ((wrap64 (x4_1 + 1)) : Int).toNat).size ≤ 9223372036854775807 then (gongref10_Escape.l0 k1 a0 ((x3_1 ++ (⟨#[92]⟩ : ByteArray)) ++ (a0.extract (x4_1 : Int).toNat ((wrap64 (x4_1 + 1)) : Int).toNat)) (wrap64 (x4_1 + 1))) else (none)) else (none)) else (none)) else (none)) = some r := by rw [if_pos rfl] at H; exact H
            clear H
            have H := H1
            clear H1
            by_cases c7 : x3_1.size + 1 ≤ 9223372036854775807
            · rw [if_pos c7] at H
              have c7b0 := eq_true c7
              have c7b1 : decide (x3_1.size + 1 ≤ 9223372036854775807) = true := decide_eq_true c7
              try have c7b2 : (9223372036854775807 < x3_1.size + 1) = False := eq_false (Nat.not_lt.2 c7)
              have c8b0 := eq_true (of_decide_eq_true (by first | (with_reducible assumption) | assumption) : 0 ≤ x4_1)
              by_cases c9 : x4_1 ≤ (wrap64 (x4_1 + 1))
              · rw [if_pos c9] at H
                have c9b0 := eq_true c9
                have c9b1 : decide (x4_1 ≤ (wrap64 (x4_1 + 1))) = true := decide_eq_true c9
                by_cases c10 : (wrap64 (x4_1 + 1)) ≤ (a0.size : Int)
                · rw [if_pos c10] at H
                  have c10b0 := eq_true c10
                  have c10b1 : decide ((wrap64 (x4_1 + 1)) ≤ (a0.size : Int)) = true := decide_eq_true c10
                  by_cases c11 : (x3_1 ++ (⟨#[92]⟩ : ByteArray)).size + (a0.extract (x4_1 : Int).toNat ((wrap64 (x4_1 + 1)) : Int).toNat).size ≤ 9223372036854775807
                  · rw [if_pos c11] at H
                    have c11b0 := eq_true c11
                    have c11b1 : decide ((x3_1 ++ (⟨#[92]⟩ : ByteArray)).size + (a0.extract (x4_1 : Int).toNat ((wrap64 (x4_1 + 1)) : Int).toNat).size ≤ 9223372036854775807) = true := decide_eq_true c11
                    try have c11b2 : (9223372036854775807 < (x3_1 ++ (⟨#[92]⟩ : ByteArray)).size + (a0.extract (x4_1 : Int).toNat ((wrap64 (x4_1 + 1)) : Int).toNat).size) = False := eq_false (Nat.not_lt.2 c11)
                    try have c11s2 : (9223372036854775807 < (x3_1).size + 1 + (a0.extract (x4_1 : Int).toNat ((wrap64 (x4_1 + 1)) : Int).toNat).size) = False := eq_false (by have z_ := c11; simp only [ByteArray.size_append] at z_; have y0_ : (⟨#[92]⟩ : ByteArray).size = 1 := rfl; omega)
                    have H' := Aside0.mk H
                    clear H
                    have p4 : 0 ≤ (x4_1 : Int) := of_decide_eq_true (by first | (with_reducible assumption) | assumption)
                    have q4 : x4_1 < (a0.size : Int) := of_decide_eq_true (by first | (with_reducible assumption) | assumption)
                    have hx4 := bt_at a0 x4_1
                    replace p4 := eq_true p4
                    replace q4 := eq_true q4
                    go_wp2_with (first | ((with_reducible refine gate_callee (f := 37) rfl ?_); refine goesL_ (some 14) rfl rfl Try.func37 (by kernel_rfl) rfl #[.int .u8 (bt a0 x4_1)] rfl (by (try simp only [List.map_toArray, List.map_cons, List.map_nil]); first | done | rfl | (simp only [List.length_drop, List.length_take]; rfl)) ?_; (with_reducible refine (gongref10_special.calls (bt a0 x4_1) true _ A5.out).mono ?_); rintro e w' ⟨rfl, ⟨nd, rfl⟩⟩; refine ⟨_, rfl, ?_⟩))
                    go_roundg k1
                    case measure => have := HK1.out; omega
                    case rel => exact ⟨((x3_1 ++ (⟨#[92]⟩ : ByteArray)) ++ (a0.extract (x4_1 : Int).toNat ((wrap64 (x4_1 + 1)) : Int).toNat)), (wrap64 (x4_1 + 1)), (by first | rfl | (simp; done) | (simp [*]; done)), (by first | rfl | (simp; done) | (simp [*]; done)), H', ⟨by have := HK1.out; omega⟩, by repeat (first | exact Drawn0.refl _ | apply Drawn0.step)⟩
                  · rw [if_neg c11] at H
                    exact absurd H (by simp)
                · rw [if_neg c10] at H
                  exact absurd H (by simp)
              · rw [if_neg c9] at H
                exact absurd H (by simp)
            · rw [if_neg c7] at H
              exact absurd H (by simp)
          · replace c6 := Bool.eq_false_iff.mpr c6
            subst c6
            have H1 : (if x4_1 ≤ (wrap64 (x4_1 + 1)) then (if (wrap64 (x4_1 + 1)) ≤ (a0.size : Int) then (if x3_1.size + (a0.extract (x4_1 : Int).toNat ((wrap64 (x4_1 + 1)) : Int).toNat).size ≤ 9223372036854775807 then (gongref10_Escape.l0 k1 a0 (x3_1 ++ (a0.extract (x4_1 : Int).toNat ((wrap64 (x4_1 + 1)) : Int).toNat)) (wrap64 (x4_1 + 1))) else (none)) else (none)) else (none)) = some r := by rw [if_neg (show ¬ (false = true) by decide)] at H; exact H
            clear H
            have H := H1
            clear H1
            have c12b0 := eq_true (of_decide_eq_true (by first | (with_reducible assumption) | assumption) : 0 ≤ x4_1)
            by_cases c13 : x4_1 ≤ (wrap64 (x4_1 + 1))
            · rw [if_pos c13] at H
              have c13b0 := eq_true c13
              have c13b1 : decide (x4_1 ≤ (wrap64 (x4_1 + 1))) = true := decide_eq_true c13
              by_cases c14 : (wrap64 (x4_1 + 1)) ≤ (a0.size : Int)
              · rw [if_pos c14] at H
                have c14b0 := eq_true c14
                have c14b1 : decide ((wrap64 (x4_1 + 1)) ≤ (a0.size : Int)) = true := decide_eq_true c14
                by_cases c15 : x3_1.size + (a0.extract (x4_1 : Int).toNat ((wrap64 (x4_1 + 1)) : Int).toNat).size ≤ 9223372036854775807
                · rw [if_pos c15] at H
                  have c15b0 := eq_true c15
                  have c15b1 : decide (x3_1.size + (a0.extract (x4_1 : Int).toNat ((wrap64 (x4_1 + 1)) : Int).toNat).size ≤ 9223372036854775807) = true := decide_eq_true c15
                  try have c15b2 : (9223372036854775807 < x3_1.size + (a0.extract (x4_1 : Int).toNat ((wrap64 (x4_1 + 1)) : Int).toNat).size) = False := eq_false (Nat.not_lt.2 c15)
                  have H' := Aside0.mk H
                  clear H
                  have p4 : 0 ≤ (x4_1 : Int) := of_decide_eq_true (by first | (with_reducible assumption) | assumption)
                  have q4 : x4_1 < (a0.size : Int) := of_decide_eq_true (by first | (with_reducible assumption) | assumption)
                  have hx4 := bt_at a0 x4_1
                  replace p4 := eq_true p4
                  replace q4 := eq_true q4
                  go_wp2_with (first | ((with_reducible refine gate_callee (f := 37) rfl ?_); refine goesL_ (some 14) rfl rfl Try.func37 (by kernel_rfl) rfl #[.int .u8 (bt a0 x4_1)] rfl (by (try simp only [List.map_toArray, List.map_cons, List.map_nil]); first | done | rfl | (simp only [List.length_drop, List.length_take]; rfl)) ?_; (with_reducible refine (gongref10_special.calls (bt a0 x4_1) false _ A5.out).mono ?_); rintro e w' ⟨rfl, ⟨nd, rfl⟩⟩; refine ⟨_, rfl, ?_⟩))
                  go_roundg k1
                  case measure => have := HK1.out; omega
                  case rel => exact ⟨(x3_1 ++ (a0.extract (x4_1 : Int).toNat ((wrap64 (x4_1 + 1)) : Int).toNat)), (wrap64 (x4_1 + 1)), (by first | rfl | (simp; done) | (simp [*]; done)), (by first | rfl | (simp; done) | (simp [*]; done)), H', ⟨by have := HK1.out; omega⟩, by repeat (first | exact Drawn0.refl _ | apply Drawn0.step)⟩
                · rw [if_neg c15] at H
                  exact absurd H (by simp)
              · rw [if_neg c14] at H
                exact absurd H (by simp)
            · rw [if_neg c13] at H
              exact absurd H (by simp)
        · rw [if_neg c3] at H
          exact absurd H (by simp)
      · rw [if_neg c2] at H
        have c2b0 : decide (x4_1 < (a0.size : Int)) = false := decide_eq_false c2
        clear c2
        obtain rfl := Option.some.inj H
        go_wp2
        go_ret
        exact ⟨by first | rfl | (simp; done) | (simp [*]; done) | (simp [IntKind.wrap_u8, IntKind.wrap_i64, wrap64]; done) | (simp only [IntKind.wrap_u8]; rfl), by repeat (first | exact Drawn0.refl _ | apply Drawn0.step)⟩

end Go.Proofs.Ytgopphglkjdcaaa.Px
