/- What the proof of TicketWrites leans on: words, walks and plain laws, part 5; laid by wip/trim.py out of this session's own texts and of what the kit's tools wrote for this seat. -/
import Derived.Test.YtipenplplmdclaaDoorZTicketWritesD
import Derived.Laws.Strings
set_option linter.unusedVariables false
set_option linter.unusedSimpArgs false
section
namespace Go.Proofs.YtipenplplmdclaaDoor.Px
open Go.RowKit Go.Proofs.YtipenplplmdclaaDoorW.PrintWords Go.Proofs.YtipenplplmdclaaDoorW.PrintLast Go.Proofs.YtipenplplmdclaaDoorW.PrintMore
attribute [local go_sem] max2_int min2_int max_two min_two max_three min_three max_four min_four
set_option linter.unusedVariables false
set_option linter.unusedSimpArgs false
def gongref23_Put.f (k : Nat) (a0_0 : Int) (a0_1 : Int) (a0_2 : Int) (a0_3 : ByteArray) (a0_4 : ByteArray) (a0_5 : ByteArray) (a0_6 : Int) (a0_7 : ByteArray) (a0_8 : Int) (a0_9 : Int) (a0_10 : Int) (a0_11 : Bool) (a0_12 : ByteArray) : Option (ByteArray) := (some (([(a0_1) % 256] : List Int) : List Int)).bind fun y254 => ((gongref23_PutRow.f k a0_2 a0_3 a0_4 a0_5 a0_6 a0_7 a0_8 a0_9 a0_10 a0_11 a0_12).bind fun t257 => (if (strOfNums y254).size + t257.size ≤ 9223372036854775807 then (some ((strOfNums y254) ++ t257)) else (none)))
def gongref23_Put.T1 : Bool × List (List Nat × List Nat) := (true, [([], []), ([0], [0]), ([1], [1]), ([2], [2]), ([3], [3]), ([], []), ([5], [5]), ([6], [6]), ([4, 7], [4, 7]), ([8, 7, 0, 1, 2, 3, 4, 5, 6, 7, 8], [8])])
def gongref23_Put.B1 : List Nat := [0, 1, 3, 7, 15, 0, 32, 96, 255, 511]
theorem gongref23_Put.tab1 : rtab .any (opsOf Tryd.f27 1) = gongref23_Put.T1 := by kernel_rfl
theorem gongref23_Put.bits1 : waitsOk gongref23_Put.T1.2 gongref23_Put.B1 = true := by kernel_rfl
set_option maxHeartbeats 8000000 in
set_option maxRecDepth 100000 in
theorem gongref23_Put.calls (k : Nat) (a0_0 : Int) (a0_1 : Int) (a0_2 : Int) (a0_3 : ByteArray) (a0_4 : ByteArray) (a0_5 : ByteArray) (a0_6 : Int) (a0_7 : ByteArray) (a0_8 : Int) (a0_9 : Int) (a0_10 : Int) (a0_11 : Bool) (a0_12 : ByteArray) (r : ByteArray) (w : World) (h : gongref23_Put.f k a0_0 a0_1 a0_2 a0_3 a0_4 a0_5 a0_6 a0_7 a0_8 a0_9 a0_10 a0_11 a0_12 = some r) :
    Calls Tryd.prog 27 #[.agg #[.int .i64 a0_0, .int .i64 a0_1, .int .i64 a0_2, .string a0_3, .string a0_4, .string a0_5, .int .i64 a0_6, .string a0_7, .int .i64 a0_8, .int .i64 a0_9, .int .i64 a0_10, .bool a0_11, .string a0_12]] w fun e w' => e = .returned (.string r) ∧ Below w.heap.size w w' := by
  have hu27 := Tryd.underlying27
  have hu25 := Tryd.underlying25
  have HB := Aside0.mk (Below.refl w.heap.size w)
  have H : ((some (([(a0_1) % 256] : List Int) : List Int)).bind fun y254 => ((gongref23_PutRow.f k a0_2 a0_3 a0_4 a0_5 a0_6 a0_7 a0_8 a0_9 a0_10 a0_11 a0_12).bind fun t257 => (if (strOfNums y254).size + t257.size ≤ 9223372036854775807 then (some ((strOfNums y254) ++ t257)) else (none)))) = some r := h
  clear h
  obtain ⟨y254, hy254⟩ : ∃ y_ : List Int, y_ = (([(a0_1) % 256] : List Int)) := ⟨_, rfl⟩
  replace H : ((gongref23_PutRow.f k a0_2 a0_3 a0_4 a0_5 a0_6 a0_7 a0_8 a0_9 a0_10 a0_11 a0_12).bind fun t257 => (if (strOfNums y254).size + t257.size ≤ 9223372036854775807 then (some ((strOfNums y254) ++ t257)) else (none))) = some r := by first | (rw [hy254]; with_reducible exact H) | (have H2_ := (Option.bind_some _ _).symm.trans H; rw [hy254]; with_reducible exact H2_) | (have H2_ := (Option.bind_some _ _).symm.trans H; with_reducible exact H2_) | with_reducible exact H | (rw [hy254]; exact H) | exact H
  have Ny254 := Aside0.mk hy254
  clear hy254
  replace H := Option.bind_eq_some_iff.mp H
  obtain ⟨t257, A20, H⟩ := H
  replace H : (if (strOfNums y254).size + t257.size ≤ 9223372036854775807 then (some ((strOfNums y254) ++ t257)) else (none)) = some r := H
  have A2 := Aside0.mk A20
  clear A20
  by_cases c3 : (strOfNums y254).size + t257.size ≤ 9223372036854775807
  · rw [if_pos c3] at H
    have c3b0 := eq_true c3
    have c3b1 : decide ((strOfNums y254).size + t257.size ≤ 9223372036854775807) = true := decide_eq_true c3
    try have c3b2 : (9223372036854775807 < (strOfNums y254).size + t257.size) = False := eq_false (Nat.not_lt.2 c3)
    obtain rfl := Option.some.inj H
    go_enter Tryd.func27, Tryd.ntmps27
    try go_wp2_with (first | ((with_reducible refine gate_dst (N := 1) rfl ?_); refine box_event ?hg (N := 1) ?hd (cs := #[.int .i64 a0_0, .int .i64 a0_1, .int .i64 a0_2, .string a0_3, .string a0_4, .string a0_5, .int .i64 a0_6, .string a0_7, .int .i64 a0_8, .int .i64 a0_9, .int .i64 a0_10, .bool a0_11, .string a0_12]) (t := 27) ?hr ?_; (case hd => rfl); (case hg => rfl); (case hr => first | (go_simp; done) | (go_simp; rfl)); intro gb253 hg w4 hbox hb; have n0_ := Aside0.mk (below_step (by repeat (first | (with_reducible first | exact HB.out | apply below_alloc | apply pw_below_drewN | apply below_drew1) | exact HB.out)) hb); have n1_ := Aside0.mk (hbox); have n2_ := Aside0.mk ((by rw [hg]; exact (below_size (by repeat (first | (with_reducible first | exact HB.out | apply below_alloc | apply pw_below_drewN | apply below_drew1) | exact HB.out))) : w.heap.size ≤ gb253)); have n3_ := Aside0.mk ((by rw [hg]; exact (below_size (by repeat (first | (with_reducible first | exact HB.out | apply below_alloc | apply pw_below_drewN | apply below_drew1) | exact HB.out))) : w.heap.size ≤ gb253)); clear HB; have HB := n0_; have BK253 := n1_; have GW253 := n2_; have GE253 := n3_; clear n0_ n1_ n2_ n3_; clear hb hbox hg))
    have n0_ := Aside0.mk (blk_drew BK253.out)
    have n1_ := Aside0.mk (below_drew1 HB.out)
    clear BK253
    clear HB
    have BK253 := n0_
    have HB := n1_
    clear n0_ n1_
    refine start_ (n := 10) (S := fun w' => w'.cell? ⟨gb253, 0, none⟩ = some (.int .i64 a0_0) ∧ w'.cell? ⟨gb253, 1, none⟩ = some (.int .i64 a0_1) ∧ w'.cell? ⟨gb253, 2, none⟩ = some (.int .i64 a0_2) ∧ w'.cell? ⟨gb253, 3, none⟩ = some (.string a0_3) ∧ w'.cell? ⟨gb253, 4, none⟩ = some (.string a0_4) ∧ w'.cell? ⟨gb253, 5, none⟩ = some (.string a0_5) ∧ w'.cell? ⟨gb253, 6, none⟩ = some (.int .i64 a0_6) ∧ w'.cell? ⟨gb253, 7, none⟩ = some (.string a0_7) ∧ w'.cell? ⟨gb253, 8, none⟩ = some (.int .i64 a0_8) ∧ w'.cell? ⟨gb253, 9, none⟩ = some (.int .i64 a0_9) ∧ w'.cell? ⟨gb253, 10, none⟩ = some (.int .i64 a0_10) ∧ w'.cell? ⟨gb253, 11, none⟩ = some (.bool a0_11) ∧ w'.cell? ⟨gb253, 12, none⟩ = some (.string a0_12)) (ds := []) #[false, false, false, false, false, false, false, false, false, false] (by kernel_rfl) rfl rfl ⟨(blk_cell BK253.out 0).trans rfl, (blk_cell BK253.out 1).trans rfl, (blk_cell BK253.out 2).trans rfl, (blk_cell BK253.out 3).trans rfl, (blk_cell BK253.out 4).trans rfl, (blk_cell BK253.out 5).trans rfl, (blk_cell BK253.out 6).trans rfl, (blk_cell BK253.out 7).trans rfl, (blk_cell BK253.out 8).trans rfl, (blk_cell BK253.out 9).trans rfl, (blk_cell BK253.out 10).trans rfl, (blk_cell BK253.out 11).trans rfl, (blk_cell BK253.out 12).trans rfl⟩ (fun hHeld => ?_); refine with_tabW gongref23_Put.tab1 gongref23_Put.bits1 (fun HT_ HW_ => ?_)
    generalize w4.drew = w5 at BK253 HB hHeld ⊢
    refine pure_ (i := 0) (N := some 3) (v := ?_) (a' := ?_) #[true, false, false, false, false, false, false, false, false, false] rfl rfl (any_of HT_.out (by kernel_rfl)) (fun _ _ _ h => h) (Or.inl ⟨by rfl, ?_⟩) ?_ ?_
    rotate_left
    · intro w'
      go_simp
      with_reducible rfl
    rotate_left
    · simp only [Act.put, List.setIfInBounds_toArray, List.set_cons_zero, List.set_cons_succ, i64_w, i32_w]
      rfl
    refine pure_ (i := 5) (N := some 8) (v := ?_) (a' := ?_) #[true, false, false, false, false, true, false, false, false, false] rfl rfl (any_of HT_.out (by kernel_rfl)) (fun _ _ _ h => h) (Or.inl ⟨by rfl, ?_⟩) ?_ ?_
    rotate_left
    · intro w'
      go_simp
      with_reducible rfl
    rotate_left
    · simp only [Act.put, List.setIfInBounds_toArray, List.set_cons_zero, List.set_cons_succ, i64_w, i32_w]
      rfl
    refine take_ (i := 1) (N := some 4) (v := ?_) (a' := ?_) #[true, true, false, false, false, true, false, false, false, false] rfl rfl (take_ofW HT_.out HW_.out (by kernel_rfl)) (fun _ _ _ h => h) (Or.inl ⟨by rfl, ?_⟩) hHeld ?_ ?_
    rotate_left
    · rintro w' ⟨s0, s1, s2, s3, s4, s5, s6, s7, s8, s9, s10, s11, s12⟩
      go_simp
      with_reducible rfl
    rotate_left
    · simp only [Act.put, List.setIfInBounds_toArray, List.set_cons_zero, List.set_cons_succ, i64_w, i32_w]
      rfl
    refine pure_ (i := 2) (N := some 5) (v := ?_) (a' := ?_) #[true, true, true, false, false, true, false, false, false, false] rfl rfl (any_of HT_.out (by kernel_rfl)) (fun _ _ _ h => h) (Or.inl ⟨by rfl, ?_⟩) ?_ ?_
    rotate_left
    · intro w'
      go_simp
      with_reducible rfl
    rotate_left
    · simp only [Act.put, List.setIfInBounds_toArray, List.set_cons_zero, List.set_cons_succ, i64_w, i32_w]
      rfl
    refine take_ (i := 6) (N := some 9) (v := ?_) (a' := ?_) #[true, true, true, false, false, true, true, false, false, false] rfl rfl (take_ofW HT_.out HW_.out (by kernel_rfl)) (fun _ _ _ h => h) (Or.inl ⟨by rfl, ?_⟩) hHeld ?_ ?_
    rotate_left
    · rintro w' ⟨s0, s1, s2, s3, s4, s5, s6, s7, s8, s9, s10, s11, s12⟩
      go_simp
      with_reducible rfl
    rotate_left
    · simp only [Act.put, List.setIfInBounds_toArray, List.set_cons_zero, List.set_cons_succ, i64_w, i32_w]
      rfl
    refine join_ (σ := Value) 2 #[true, true, true, true, true, true, true, true, false, false] (fun s_ => [(6, s_), (7, .string (strOfNums y254)), (10, .string t257)]) (fun s_ w' => (w'.cell? ⟨gb253, 0, none⟩ = some (.int .i64 a0_0) ∧ w'.cell? ⟨gb253, 1, none⟩ = some (.int .i64 a0_1) ∧ w'.cell? ⟨gb253, 2, none⟩ = some (.int .i64 a0_2) ∧ w'.cell? ⟨gb253, 3, none⟩ = some (.string a0_3) ∧ w'.cell? ⟨gb253, 4, none⟩ = some (.string a0_4) ∧ w'.cell? ⟨gb253, 5, none⟩ = some (.string a0_5) ∧ w'.cell? ⟨gb253, 6, none⟩ = some (.int .i64 a0_6) ∧ w'.cell? ⟨gb253, 7, none⟩ = some (.string a0_7) ∧ w'.cell? ⟨gb253, 8, none⟩ = some (.int .i64 a0_8) ∧ w'.cell? ⟨gb253, 9, none⟩ = some (.int .i64 a0_9) ∧ w'.cell? ⟨gb253, 10, none⟩ = some (.int .i64 a0_10) ∧ w'.cell? ⟨gb253, 11, none⟩ = some (.bool a0_11) ∧ w'.cell? ⟨gb253, 12, none⟩ = some (.string a0_12)) ∧ (Kd.R (Kd.int .u8) 5 w' w.heap.size (fun _ => True) s_ y254) ∧ (w'.heap[gb253]? = some (.cells #[.int .i64 a0_0, .int .i64 a0_1, .int .i64 a0_2, .string a0_3, .string a0_4, .string a0_5, .int .i64 a0_6, .string a0_7, .int .i64 a0_8, .int .i64 a0_9, .int .i64 a0_10, .bool a0_11, .string a0_12] 27 (0, 0))) ∧ (Below w.heap.size w w')) ?_ ?_
    rotate_left
    · intro hCont
      refine two_ (i := 3) (j := 7) (Ni := some 6) (Nj := some 10) #[true, true, true, true, false, true, true, false, false, false] #[true, true, true, false, false, true, true, true, false, false] rfl rfl rfl rfl (two_of HT_.out (by kernel_rfl)) (by decide) (by decide) (fun K hK => ?_) (fun K hK => ?_)
      · skip
        refine Kd.R_lit_step (Kd.int .u8) _ 5 ?hg (N := 6) ?hd (xs := ([(a0_1) % 256] : List Int)) (inner := [.int .u8 ((a0_1) % 256)]) (ok := fun _ => True) (okp := fun _ => True) ?hr ?hp (fun _ hk => hk) trivial (Below.refl _ _) (Nat.le_refl _) (by simp) ?_; (case hd => rfl); (case hg => rfl); (case hr => first | (go_simp; done) | (go_simp; rfl)); (case hp => exact (Reps.one (show Kd.M (Kd.int .u8) _ _ _ ((a0_1) % 256) [.int .u8 ((a0_1) % 256)] from rfl) (Reps.none _ _)))
        intro v255 w6 ho7 hb hg_ hnew_
        clear hg_ hnew_
        (first | rw [← Ny254.out] at ho7 | (simp only [Int.reduceToNat] at ho7; rw [← Ny254.out] at ho7))
        have n0_ := Aside0.mk (Kd.R_lower ho7 (below_size (by repeat (first | (with_reducible first | exact HB.out | apply below_alloc | apply pw_below_drewN | apply below_drew1 | refine below_set ?_ GE253.out) | exact HB.out))))
        have n1_ := Aside0.mk (blk_below (g := gb253) (o := .cells #[.int .i64 a0_0, .int .i64 a0_1, .int .i64 a0_2, .string a0_3, .string a0_4, .string a0_5, .int .i64 a0_6, .string a0_7, .int .i64 a0_8, .int .i64 a0_9, .int .i64 a0_10, .bool a0_11, .string a0_12] 27 (0, 0)) (by (with_reducible repeat (first | refine blk_drewN ?_ _ | refine blk_drew ?_ | refine blk_alloc ?_ _)); exact BK253.out) hb)
        have n2_ := Aside0.mk (below_step (by repeat (first | (with_reducible first | exact HB.out | apply below_alloc | apply pw_below_drewN | apply below_drew1 | refine below_set ?_ GE253.out) | exact HB.out)) hb)
        clear BK253
        clear HB
        have HO256 := n0_
        have BK253 := n1_
        have HB := n2_
        clear n0_ n1_ n2_
        clear hb ho7
        refine hK.out _ _ ⟨(blk_cell BK253.out 0).trans rfl, (blk_cell BK253.out 1).trans rfl, (blk_cell BK253.out 2).trans rfl, (blk_cell BK253.out 3).trans rfl, (blk_cell BK253.out 4).trans rfl, (blk_cell BK253.out 5).trans rfl, (blk_cell BK253.out 6).trans rfl, (blk_cell BK253.out 7).trans rfl, (blk_cell BK253.out 8).trans rfl, (blk_cell BK253.out 9).trans rfl, (blk_cell BK253.out 10).trans rfl, (blk_cell BK253.out 11).trans rfl, (blk_cell BK253.out 12).trans rfl⟩ (fun hHeld => ?_)
        clear hK K
        refine norm_ (a' := ?_) ?_ ?_
        rotate_left
        · show Act.put _ (some 6) _ = _
          simp only [Act.put, List.setIfInBounds_toArray, List.set_cons_zero, List.set_cons_succ, i64_w, i32_w]
          rfl
        refine two_ (i := 4) (j := 7) (Ni := some 7) (Nj := some 10) #[true, true, true, true, true, true, true, false, false, false] #[true, true, true, true, false, true, true, true, false, false] rfl rfl rfl rfl (two_of HT_.out (by kernel_rfl)) (by decide) (by decide) (fun K hK => ?_) (fun K hK => ?_)
        · skip
          have hcv8 := own_string (P := Tryd.prog) Tryd.underlying44 Tryd.underlying5 Tryd.underlying9 (Kd.own_of_R HO256.out)
          refine value_ (w1 := ?_) (v := ?_) (by rfl) rfl ?_ ?_
          rotate_left 2
          · go_simp
            constructor
            · rfl
            · rfl
          clear hcv8
          refine hK.out _ _ ⟨(blk_cell BK253.out 0).trans rfl, (blk_cell BK253.out 1).trans rfl, (blk_cell BK253.out 2).trans rfl, (blk_cell BK253.out 3).trans rfl, (blk_cell BK253.out 4).trans rfl, (blk_cell BK253.out 5).trans rfl, (blk_cell BK253.out 6).trans rfl, (blk_cell BK253.out 7).trans rfl, (blk_cell BK253.out 8).trans rfl, (blk_cell BK253.out 9).trans rfl, (blk_cell BK253.out 10).trans rfl, (blk_cell BK253.out 11).trans rfl, (blk_cell BK253.out 12).trans rfl⟩ (fun hHeld => ?_)
          clear hK K
          refine norm_ (a' := ?_) ?_ ?_
          rotate_left
          · show Act.put _ (some 7) _ = _
            simp only [Act.put, List.setIfInBounds_toArray, List.set_cons_zero, List.set_cons_succ, i64_w, i32_w]
            rfl
          refine one_ (i := 7) (N := some 10) #[true, true, true, true, true, true, true, true, false, false] rfl rfl (one_of HT_.out (by kernel_rfl)) (by decide) (fun K hK => ?_)
          refine goes_ Tryd.func48 (by kernel_rfl) rfl #[.agg #[.int .i64 a0_2, .string a0_3, .string a0_4, .string a0_5, .int .i64 a0_6, .string a0_7, .int .i64 a0_8, .int .i64 a0_9, .int .i64 a0_10, .bool a0_11, .string a0_12]] (by rfl) rfl rfl (by (try simp only [List.map_toArray, List.map_cons, List.map_nil]); first | done | rfl | (simp only [List.length_drop, List.length_take]; rfl)) ?_
          with_reducible refine (gongref23_PutRow.calls k a0_2 a0_3 a0_4 a0_5 a0_6 a0_7 a0_8 a0_9 a0_10 a0_11 a0_12 t257 _ A2.out).mono ?_
          rintro e w9 ⟨rfl, hb⟩
          refine ⟨_, rfl, ?_⟩
          have n0_ := Aside0.mk (Kd.R_below (by (with_reducible repeat (first | apply Kd.R_alloc | apply Kd.R_drewN | apply Kd.R_drew)); exact HO256.out) hb)
          have n1_ := Aside0.mk (blk_below (g := gb253) (o := .cells #[.int .i64 a0_0, .int .i64 a0_1, .int .i64 a0_2, .string a0_3, .string a0_4, .string a0_5, .int .i64 a0_6, .string a0_7, .int .i64 a0_8, .int .i64 a0_9, .int .i64 a0_10, .bool a0_11, .string a0_12] 27 (0, 0)) (by (with_reducible repeat (first | refine blk_drewN ?_ _ | refine blk_drew ?_ | refine blk_alloc ?_ _)); exact BK253.out) hb)
          have n2_ := Aside0.mk (below_step (by repeat (first | (with_reducible first | exact HB.out | apply below_alloc | apply pw_below_drewN | apply below_drew1 | refine below_set ?_ GE253.out) | exact HB.out)) hb)
          clear HO256
          clear BK253
          clear HB
          have HO256 := n0_
          have BK253 := n1_
          have HB := n2_
          clear n0_ n1_ n2_
          (try clear hb)
          (try clear hb2)
          (try clear hk)
          (try clear hi)
          refine hK.out _ _ ⟨(blk_cell BK253.out 0).trans rfl, (blk_cell BK253.out 1).trans rfl, (blk_cell BK253.out 2).trans rfl, (blk_cell BK253.out 3).trans rfl, (blk_cell BK253.out 4).trans rfl, (blk_cell BK253.out 5).trans rfl, (blk_cell BK253.out 6).trans rfl, (blk_cell BK253.out 7).trans rfl, (blk_cell BK253.out 8).trans rfl, (blk_cell BK253.out 9).trans rfl, (blk_cell BK253.out 10).trans rfl, (blk_cell BK253.out 11).trans rfl, (blk_cell BK253.out 12).trans rfl⟩ (fun hHeld => ?_)
          clear hK K
          refine norm_ (a' := ?_) ?_ ?_
          rotate_left
          · show Act.put _ (some 10) _ = _
            simp only [Act.put, List.setIfInBounds_toArray, List.set_cons_zero, List.set_cons_succ, i64_w, i32_w]
            rfl
          exact norm_ (by simp only [putAll, Act.put, List.setIfInBounds_toArray, List.set_cons_zero, List.set_cons_succ]) (hCont (v255) _ ⟨hHeld, (by (with_reducible repeat (first | apply Kd.R_alloc | apply Kd.R_drewN | apply Kd.R_drew)); exact HO256.out), (by (with_reducible repeat (first | refine blk_drewN ?_ _ | refine blk_drew ?_ | refine blk_alloc ?_ _)); exact BK253.out), (by repeat (first | (with_reducible first | exact HB.out | apply below_alloc | apply pw_below_drewN | apply below_drew1 | refine below_set ?_ GE253.out) | exact HB.out))⟩)
        · skip
          refine goes_ Tryd.func48 (by kernel_rfl) rfl #[.agg #[.int .i64 a0_2, .string a0_3, .string a0_4, .string a0_5, .int .i64 a0_6, .string a0_7, .int .i64 a0_8, .int .i64 a0_9, .int .i64 a0_10, .bool a0_11, .string a0_12]] (by rfl) rfl rfl (by (try simp only [List.map_toArray, List.map_cons, List.map_nil]); first | done | rfl | (simp only [List.length_drop, List.length_take]; rfl)) ?_
          with_reducible refine (gongref23_PutRow.calls k a0_2 a0_3 a0_4 a0_5 a0_6 a0_7 a0_8 a0_9 a0_10 a0_11 a0_12 t257 _ A2.out).mono ?_
          rintro e w8 ⟨rfl, hb⟩
          refine ⟨_, rfl, ?_⟩
          have n0_ := Aside0.mk (Kd.R_below (by (with_reducible repeat (first | apply Kd.R_alloc | apply Kd.R_drewN | apply Kd.R_drew)); exact HO256.out) hb)
          have n1_ := Aside0.mk (blk_below (g := gb253) (o := .cells #[.int .i64 a0_0, .int .i64 a0_1, .int .i64 a0_2, .string a0_3, .string a0_4, .string a0_5, .int .i64 a0_6, .string a0_7, .int .i64 a0_8, .int .i64 a0_9, .int .i64 a0_10, .bool a0_11, .string a0_12] 27 (0, 0)) (by (with_reducible repeat (first | refine blk_drewN ?_ _ | refine blk_drew ?_ | refine blk_alloc ?_ _)); exact BK253.out) hb)
          have n2_ := Aside0.mk (below_step (by repeat (first | (with_reducible first | exact HB.out | apply below_alloc | apply pw_below_drewN | apply below_drew1 | refine below_set ?_ GE253.out) | exact HB.out)) hb)
          clear HO256
          clear BK253
          clear HB
          have HO256 := n0_
          have BK253 := n1_
          have HB := n2_
          clear n0_ n1_ n2_
          (try clear hb)
          (try clear hb2)
          (try clear hk)
          (try clear hi)
          refine hK.out _ _ ⟨(blk_cell BK253.out 0).trans rfl, (blk_cell BK253.out 1).trans rfl, (blk_cell BK253.out 2).trans rfl, (blk_cell BK253.out 3).trans rfl, (blk_cell BK253.out 4).trans rfl, (blk_cell BK253.out 5).trans rfl, (blk_cell BK253.out 6).trans rfl, (blk_cell BK253.out 7).trans rfl, (blk_cell BK253.out 8).trans rfl, (blk_cell BK253.out 9).trans rfl, (blk_cell BK253.out 10).trans rfl, (blk_cell BK253.out 11).trans rfl, (blk_cell BK253.out 12).trans rfl⟩ (fun hHeld => ?_)
          clear hK K
          refine norm_ (a' := ?_) ?_ ?_
          rotate_left
          · show Act.put _ (some 10) _ = _
            simp only [Act.put, List.setIfInBounds_toArray, List.set_cons_zero, List.set_cons_succ, i64_w, i32_w]
            rfl
          refine one_ (i := 4) (N := some 7) #[true, true, true, true, true, true, true, true, false, false] rfl rfl (one_of HT_.out (by kernel_rfl)) (by decide) (fun K hK => ?_)
          have hcv9 := own_string (P := Tryd.prog) Tryd.underlying44 Tryd.underlying5 Tryd.underlying9 (Kd.own_of_R HO256.out)
          refine value_ (w1 := ?_) (v := ?_) (by rfl) rfl ?_ ?_
          rotate_left 2
          · go_simp
            constructor
            · rfl
            · rfl
          clear hcv9
          refine hK.out _ _ ⟨(blk_cell BK253.out 0).trans rfl, (blk_cell BK253.out 1).trans rfl, (blk_cell BK253.out 2).trans rfl, (blk_cell BK253.out 3).trans rfl, (blk_cell BK253.out 4).trans rfl, (blk_cell BK253.out 5).trans rfl, (blk_cell BK253.out 6).trans rfl, (blk_cell BK253.out 7).trans rfl, (blk_cell BK253.out 8).trans rfl, (blk_cell BK253.out 9).trans rfl, (blk_cell BK253.out 10).trans rfl, (blk_cell BK253.out 11).trans rfl, (blk_cell BK253.out 12).trans rfl⟩ (fun hHeld => ?_)
          clear hK K
          refine norm_ (a' := ?_) ?_ ?_
          rotate_left
          · show Act.put _ (some 7) _ = _
            simp only [Act.put, List.setIfInBounds_toArray, List.set_cons_zero, List.set_cons_succ, i64_w, i32_w]
            rfl
          exact norm_ (by simp only [putAll, Act.put, List.setIfInBounds_toArray, List.set_cons_zero, List.set_cons_succ]) (hCont (v255) _ ⟨hHeld, (by (with_reducible repeat (first | apply Kd.R_alloc | apply Kd.R_drewN | apply Kd.R_drew)); exact HO256.out), (by (with_reducible repeat (first | refine blk_drewN ?_ _ | refine blk_drew ?_ | refine blk_alloc ?_ _)); exact BK253.out), (by repeat (first | (with_reducible first | exact HB.out | apply below_alloc | apply pw_below_drewN | apply below_drew1 | refine below_set ?_ GE253.out) | exact HB.out))⟩)
      · skip
        refine goes_ Tryd.func48 (by kernel_rfl) rfl #[.agg #[.int .i64 a0_2, .string a0_3, .string a0_4, .string a0_5, .int .i64 a0_6, .string a0_7, .int .i64 a0_8, .int .i64 a0_9, .int .i64 a0_10, .bool a0_11, .string a0_12]] (by rfl) rfl rfl (by (try simp only [List.map_toArray, List.map_cons, List.map_nil]); first | done | rfl | (simp only [List.length_drop, List.length_take]; rfl)) ?_
        with_reducible refine (gongref23_PutRow.calls k a0_2 a0_3 a0_4 a0_5 a0_6 a0_7 a0_8 a0_9 a0_10 a0_11 a0_12 t257 _ A2.out).mono ?_
        rintro e w6 ⟨rfl, hb⟩
        refine ⟨_, rfl, ?_⟩
        have n0_ := Aside0.mk (blk_below (g := gb253) (o := .cells #[.int .i64 a0_0, .int .i64 a0_1, .int .i64 a0_2, .string a0_3, .string a0_4, .string a0_5, .int .i64 a0_6, .string a0_7, .int .i64 a0_8, .int .i64 a0_9, .int .i64 a0_10, .bool a0_11, .string a0_12] 27 (0, 0)) (by (with_reducible repeat (first | refine blk_drewN ?_ _ | refine blk_drew ?_ | refine blk_alloc ?_ _)); exact BK253.out) hb)
        have n1_ := Aside0.mk (below_step (by repeat (first | (with_reducible first | exact HB.out | apply below_alloc | apply pw_below_drewN | apply below_drew1 | refine below_set ?_ GE253.out) | exact HB.out)) hb)
        clear BK253
        clear HB
        have BK253 := n0_
        have HB := n1_
        clear n0_ n1_
        (try clear hb)
        (try clear hb2)
        (try clear hk)
        (try clear hi)
        refine hK.out _ _ ⟨(blk_cell BK253.out 0).trans rfl, (blk_cell BK253.out 1).trans rfl, (blk_cell BK253.out 2).trans rfl, (blk_cell BK253.out 3).trans rfl, (blk_cell BK253.out 4).trans rfl, (blk_cell BK253.out 5).trans rfl, (blk_cell BK253.out 6).trans rfl, (blk_cell BK253.out 7).trans rfl, (blk_cell BK253.out 8).trans rfl, (blk_cell BK253.out 9).trans rfl, (blk_cell BK253.out 10).trans rfl, (blk_cell BK253.out 11).trans rfl, (blk_cell BK253.out 12).trans rfl⟩ (fun hHeld => ?_)
        clear hK K
        refine norm_ (a' := ?_) ?_ ?_
        rotate_left
        · show Act.put _ (some 10) _ = _
          simp only [Act.put, List.setIfInBounds_toArray, List.set_cons_zero, List.set_cons_succ, i64_w, i32_w]
          rfl
        refine one_ (i := 3) (N := some 6) #[true, true, true, true, false, true, true, true, false, false] rfl rfl (one_of HT_.out (by kernel_rfl)) (by decide) (fun K hK => ?_)
        refine Kd.R_lit_step (Kd.int .u8) _ 5 ?hg (N := 6) ?hd (xs := ([(a0_1) % 256] : List Int)) (inner := [.int .u8 ((a0_1) % 256)]) (ok := fun _ => True) (okp := fun _ => True) ?hr ?hp (fun _ hk => hk) trivial (Below.refl _ _) (Nat.le_refl _) (by simp) ?_; (case hd => rfl); (case hg => rfl); (case hr => first | (go_simp; done) | (go_simp; rfl)); (case hp => exact (Reps.one (show Kd.M (Kd.int .u8) _ _ _ ((a0_1) % 256) [.int .u8 ((a0_1) % 256)] from rfl) (Reps.none _ _)))
        intro v255 w7 ho8 hb hg_ hnew_
        clear hg_ hnew_
        (first | rw [← Ny254.out] at ho8 | (simp only [Int.reduceToNat] at ho8; rw [← Ny254.out] at ho8))
        have n0_ := Aside0.mk (Kd.R_lower ho8 (below_size (by repeat (first | (with_reducible first | exact HB.out | apply below_alloc | apply pw_below_drewN | apply below_drew1 | refine below_set ?_ GE253.out) | exact HB.out))))
        have n1_ := Aside0.mk (blk_below (g := gb253) (o := .cells #[.int .i64 a0_0, .int .i64 a0_1, .int .i64 a0_2, .string a0_3, .string a0_4, .string a0_5, .int .i64 a0_6, .string a0_7, .int .i64 a0_8, .int .i64 a0_9, .int .i64 a0_10, .bool a0_11, .string a0_12] 27 (0, 0)) (by (with_reducible repeat (first | refine blk_drewN ?_ _ | refine blk_drew ?_ | refine blk_alloc ?_ _)); exact BK253.out) hb)
        have n2_ := Aside0.mk (below_step (by repeat (first | (with_reducible first | exact HB.out | apply below_alloc | apply pw_below_drewN | apply below_drew1 | refine below_set ?_ GE253.out) | exact HB.out)) hb)
        clear BK253
        clear HB
        have HO256 := n0_
        have BK253 := n1_
        have HB := n2_
        clear n0_ n1_ n2_
        clear hb ho8
        refine hK.out _ _ ⟨(blk_cell BK253.out 0).trans rfl, (blk_cell BK253.out 1).trans rfl, (blk_cell BK253.out 2).trans rfl, (blk_cell BK253.out 3).trans rfl, (blk_cell BK253.out 4).trans rfl, (blk_cell BK253.out 5).trans rfl, (blk_cell BK253.out 6).trans rfl, (blk_cell BK253.out 7).trans rfl, (blk_cell BK253.out 8).trans rfl, (blk_cell BK253.out 9).trans rfl, (blk_cell BK253.out 10).trans rfl, (blk_cell BK253.out 11).trans rfl, (blk_cell BK253.out 12).trans rfl⟩ (fun hHeld => ?_)
        clear hK K
        refine norm_ (a' := ?_) ?_ ?_
        rotate_left
        · show Act.put _ (some 6) _ = _
          simp only [Act.put, List.setIfInBounds_toArray, List.set_cons_zero, List.set_cons_succ, i64_w, i32_w]
          rfl
        refine one_ (i := 4) (N := some 7) #[true, true, true, true, true, true, true, true, false, false] rfl rfl (one_of HT_.out (by kernel_rfl)) (by decide) (fun K hK => ?_)
        have hcv9 := own_string (P := Tryd.prog) Tryd.underlying44 Tryd.underlying5 Tryd.underlying9 (Kd.own_of_R HO256.out)
        refine value_ (w1 := ?_) (v := ?_) (by rfl) rfl ?_ ?_
        rotate_left 2
        · go_simp
          constructor
          · rfl
          · rfl
        clear hcv9
        refine hK.out _ _ ⟨(blk_cell BK253.out 0).trans rfl, (blk_cell BK253.out 1).trans rfl, (blk_cell BK253.out 2).trans rfl, (blk_cell BK253.out 3).trans rfl, (blk_cell BK253.out 4).trans rfl, (blk_cell BK253.out 5).trans rfl, (blk_cell BK253.out 6).trans rfl, (blk_cell BK253.out 7).trans rfl, (blk_cell BK253.out 8).trans rfl, (blk_cell BK253.out 9).trans rfl, (blk_cell BK253.out 10).trans rfl, (blk_cell BK253.out 11).trans rfl, (blk_cell BK253.out 12).trans rfl⟩ (fun hHeld => ?_)
        clear hK K
        refine norm_ (a' := ?_) ?_ ?_
        rotate_left
        · show Act.put _ (some 7) _ = _
          simp only [Act.put, List.setIfInBounds_toArray, List.set_cons_zero, List.set_cons_succ, i64_w, i32_w]
          rfl
        exact norm_ (by simp only [putAll, Act.put, List.setIfInBounds_toArray, List.set_cons_zero, List.set_cons_succ]) (hCont (v255) _ ⟨hHeld, (by (with_reducible repeat (first | apply Kd.R_alloc | apply Kd.R_drewN | apply Kd.R_drew)); exact HO256.out), (by (with_reducible repeat (first | refine blk_drewN ?_ _ | refine blk_drew ?_ | refine blk_alloc ?_ _)); exact BK253.out), (by repeat (first | (with_reducible first | exact HB.out | apply below_alloc | apply pw_below_drewN | apply below_drew1 | refine below_set ?_ GE253.out) | exact HB.out))⟩)
    rintro v255 w10 ⟨hS_, h0_, h1_, h2_⟩
    have n0_ : Aside0 (Kd.R (Kd.int .u8) 5 w10 w.heap.size (fun _ => True) v255 y254) := ⟨h0_⟩
    have n1_ : Aside0 (w10.heap[gb253]? = some (.cells #[.int .i64 a0_0, .int .i64 a0_1, .int .i64 a0_2, .string a0_3, .string a0_4, .string a0_5, .int .i64 a0_6, .string a0_7, .int .i64 a0_8, .int .i64 a0_9, .int .i64 a0_10, .bool a0_11, .string a0_12] 27 (0, 0))) := ⟨h1_⟩
    have n2_ : Aside0 (Below w.heap.size w w10) := ⟨h2_⟩
    clear BK253
    clear HB
    clear h0_ h1_ h2_
    have HO256 := n0_
    have BK253 := n1_
    have HB := n2_
    clear n0_ n1_ n2_
    have hHeld : w10.cell? ⟨gb253, 0, none⟩ = some (.int .i64 a0_0) ∧ w10.cell? ⟨gb253, 1, none⟩ = some (.int .i64 a0_1) ∧ w10.cell? ⟨gb253, 2, none⟩ = some (.int .i64 a0_2) ∧ w10.cell? ⟨gb253, 3, none⟩ = some (.string a0_3) ∧ w10.cell? ⟨gb253, 4, none⟩ = some (.string a0_4) ∧ w10.cell? ⟨gb253, 5, none⟩ = some (.string a0_5) ∧ w10.cell? ⟨gb253, 6, none⟩ = some (.int .i64 a0_6) ∧ w10.cell? ⟨gb253, 7, none⟩ = some (.string a0_7) ∧ w10.cell? ⟨gb253, 8, none⟩ = some (.int .i64 a0_8) ∧ w10.cell? ⟨gb253, 9, none⟩ = some (.int .i64 a0_9) ∧ w10.cell? ⟨gb253, 10, none⟩ = some (.int .i64 a0_10) ∧ w10.cell? ⟨gb253, 11, none⟩ = some (.bool a0_11) ∧ w10.cell? ⟨gb253, 12, none⟩ = some (.string a0_12) := hS_
    refine norm_ (a' := ?_) ?_ ?_
    rotate_left
    · simp only [putAll, Act.put, List.setIfInBounds_toArray, List.set_cons_zero, List.set_cons_succ]
      rfl
    refine pure_ (i := 8) (N := some 11) (v := ?_) (a' := ?_) #[true, true, true, true, true, true, true, true, true, false] rfl rfl (any_of HT_.out (by kernel_rfl)) (fun _ _ _ h => h) (Or.inl ⟨by rfl, ?_⟩) ?_ ?_
    rotate_left
    · intro w'
      go_simp
      with_reducible rfl
    rotate_left
    · simp only [Act.put, List.setIfInBounds_toArray, List.set_cons_zero, List.set_cons_succ, i64_w, i32_w]
      rfl
    refine pure_ (i := 9) (N := some 2) (v := ?_) (a' := ?_) #[true, true, true, true, true, true, true, true, true, true] rfl rfl (any_of HT_.out (by kernel_rfl)) (fun _ _ _ h => h) (Or.inl ⟨by rfl, ?_⟩) ?_ ?_
    rotate_left
    · intro w'
      go_simp
      with_reducible rfl
    rotate_left
    · simp only [Act.put, List.setIfInBounds_toArray, List.set_cons_zero, List.set_cons_succ, i64_w, i32_w]
      rfl
    refine done_ (done_of HT_.out (by kernel_rfl)) ?_
    try go_wp2
    go_ret
    exact ⟨by first | rfl | (simp [errW_none, errW_some] <;> rfl) | (simp [*, errW_none, errW_some] <;> rfl), by repeat (first | (with_reducible first | exact HB.out | apply below_alloc | apply pw_below_drewN | apply below_drew1 | refine below_set ?_ GE253.out) | exact HB.out)⟩
  · rw [if_neg c3] at H
    exact absurd H (by simp)
end Go.Proofs.YtipenplplmdclaaDoor.Px
end
section
namespace Go.Proofs.YtipenplplmdclaaDoor.Px
open Go.RowKit Go.Proofs.YtipenplplmdclaaDoorW.PrintWords Go.Proofs.YtipenplplmdclaaDoorW.PrintLast Go.Proofs.YtipenplplmdclaaDoorW.PrintMore
attribute [local go_sem] max2_int min2_int max_two min_two max_three min_three max_four min_four
set_option linter.unusedVariables false
set_option linter.unusedSimpArgs false
def gongref23_Payload.f (k : Nat) (a0_0 : Int) (a0_1 : Int) (a0_2 : Int) (a0_3 : ByteArray) (a0_4 : ByteArray) (a0_5 : ByteArray) (a0_6 : Int) (a0_7 : ByteArray) (a0_8 : Int) (a0_9 : Int) (a0_10 : Int) (a0_11 : Bool) (a0_12 : ByteArray) : Option (ByteArray × Int) := (gongref23_Check.f k a0_0 a0_1 a0_2 a0_3 a0_4 a0_5 a0_6 a0_7 a0_8 a0_9 a0_10 a0_11 a0_12).bind fun t259 => (if t259 = 0 then ((gongref23_Put.f k a0_0 a0_1 a0_2 a0_3 a0_4 a0_5 a0_6 a0_7 a0_8 a0_9 a0_10 a0_11 a0_12).bind fun t260 => (some (t260, 0))) else (some ((⟨#[]⟩ : ByteArray), t259)))
set_option maxHeartbeats 8000000 in
set_option maxRecDepth 100000 in
theorem gongref23_Payload.calls (k : Nat) (a0_0 : Int) (a0_1 : Int) (a0_2 : Int) (a0_3 : ByteArray) (a0_4 : ByteArray) (a0_5 : ByteArray) (a0_6 : Int) (a0_7 : ByteArray) (a0_8 : Int) (a0_9 : Int) (a0_10 : Int) (a0_11 : Bool) (a0_12 : ByteArray) (r1 : ByteArray) (r2 : Int) (w : World) (h : gongref23_Payload.f k a0_0 a0_1 a0_2 a0_3 a0_4 a0_5 a0_6 a0_7 a0_8 a0_9 a0_10 a0_11 a0_12 = some (r1, r2)) :
    Calls Tryd.prog 10 #[.agg #[.int .i64 a0_0, .int .i64 a0_1, .int .i64 a0_2, .string a0_3, .string a0_4, .string a0_5, .int .i64 a0_6, .string a0_7, .int .i64 a0_8, .int .i64 a0_9, .int .i64 a0_10, .bool a0_11, .string a0_12]] w fun e w' => e = .returned (.tuple #[.string r1, .int .i64 r2]) ∧ Below w.heap.size w w' := by
  have hu27 := Tryd.underlying27
  have HB := Aside0.mk (Below.refl w.heap.size w)
  have H : ((gongref23_Check.f k a0_0 a0_1 a0_2 a0_3 a0_4 a0_5 a0_6 a0_7 a0_8 a0_9 a0_10 a0_11 a0_12).bind fun t259 => (if t259 = 0 then ((gongref23_Put.f k a0_0 a0_1 a0_2 a0_3 a0_4 a0_5 a0_6 a0_7 a0_8 a0_9 a0_10 a0_11 a0_12).bind fun t260 => (some (t260, 0))) else (some ((⟨#[]⟩ : ByteArray), t259)))) = some (r1, r2) := h
  clear h
  replace H := Option.bind_eq_some_iff.mp H
  obtain ⟨t259, A20, H⟩ := H
  replace H : (if t259 = 0 then ((gongref23_Put.f k a0_0 a0_1 a0_2 a0_3 a0_4 a0_5 a0_6 a0_7 a0_8 a0_9 a0_10 a0_11 a0_12).bind fun t260 => (some (t260, 0))) else (some ((⟨#[]⟩ : ByteArray), t259))) = some (r1, r2) := H
  have A2 := Aside0.mk A20
  clear A20
  by_cases c3 : t259 = 0
  · rw [if_pos c3] at H
    have c3b0 : (t259 == 0) = true := beq_iff_eq.mpr c3
    have c3b1 : (t259 != 0) = false := bne_eq_false_iff_eq.mpr c3
    clear c3
    replace H := Option.bind_eq_some_iff.mp H
    obtain ⟨t260, A40, H⟩ := H
    replace H : (some (t260, 0)) = some (r1, r2) := H
    have A4 := Aside0.mk A40
    clear A40
    simp only [Option.some.injEq, Prod.mk.injEq] at H
    obtain ⟨rfl, rfl⟩ := H
    go_enter Tryd.func10, Tryd.ntmps10
    go_wp2_with (first | ((with_reducible refine gate_dst (N := 1) rfl ?_); refine box_event ?hg (N := 1) ?hd (cs := #[.int .i64 a0_0, .int .i64 a0_1, .int .i64 a0_2, .string a0_3, .string a0_4, .string a0_5, .int .i64 a0_6, .string a0_7, .int .i64 a0_8, .int .i64 a0_9, .int .i64 a0_10, .bool a0_11, .string a0_12]) (t := 27) ?hr ?_; (case hd => rfl); (case hg => rfl); (case hr => first | (go_simp; done) | (go_simp; rfl)); intro gb258 hg w5 hbox hb; have n0_ := Aside0.mk (below_step (by repeat (first | (with_reducible first | exact HB.out | apply below_alloc | apply pw_below_drewN | apply below_drew1) | exact HB.out)) hb); have n1_ := Aside0.mk (hbox); have n2_ := Aside0.mk ((by rw [hg]; exact (below_size (by repeat (first | (with_reducible first | exact HB.out | apply below_alloc | apply pw_below_drewN | apply below_drew1) | exact HB.out))) : w.heap.size ≤ gb258)); have n3_ := Aside0.mk ((by rw [hg]; exact (below_size (by repeat (first | (with_reducible first | exact HB.out | apply below_alloc | apply pw_below_drewN | apply below_drew1) | exact HB.out))) : w.heap.size ≤ gb258)); clear HB; have HB := n0_; have BK258 := n1_; have GW258 := n2_; have GE258 := n3_; clear n0_ n1_ n2_ n3_; clear hb hbox hg; obtain ⟨hcz6_0, hcz6_1, hcz6_2, hcz6_3, hcz6_4, hcz6_5, hcz6_6, hcz6_7, hcz6_8, hcz6_9, hcz6_10, hcz6_11, hcz6_12⟩ := cell13 BK258.out; obtain ⟨hfz6_0, hfz6_1, hfz6_2, hfz6_3, hfz6_4, hfz6_5, hfz6_6, hfz6_7, hfz6_8, hfz6_9, hfz6_10, hfz6_11, hfz6_12⟩ := froz13 BK258.out) | ((with_reducible refine gate_callee (f := 16) rfl ?_); refine goesL_ (some 6) rfl rfl Tryd.func16 (by kernel_rfl) rfl #[.agg #[.int .i64 a0_0, .int .i64 a0_1, .int .i64 a0_2, .string a0_3, .string a0_4, .string a0_5, .int .i64 a0_6, .string a0_7, .int .i64 a0_8, .int .i64 a0_9, .int .i64 a0_10, .bool a0_11, .string a0_12]] rfl (by (try simp only [List.map_toArray, List.map_cons, List.map_nil]); first | done | rfl | (simp only [List.length_drop, List.length_take]; rfl)) ?_; (with_reducible refine (gongref23_Check.calls k a0_0 a0_1 a0_2 a0_3 a0_4 a0_5 a0_6 a0_7 a0_8 a0_9 a0_10 a0_11 a0_12 t259 _ A2.out).mono ?_); rintro e w7 ⟨rfl, hb⟩; refine ⟨_, rfl, ?_⟩; have n0_ := Aside0.mk (blk_below (g := gb258) (o := .cells #[.int .i64 a0_0, .int .i64 a0_1, .int .i64 a0_2, .string a0_3, .string a0_4, .string a0_5, .int .i64 a0_6, .string a0_7, .int .i64 a0_8, .int .i64 a0_9, .int .i64 a0_10, .bool a0_11, .string a0_12] 27 (0, 0)) (by (with_reducible repeat (first | refine blk_drewN ?_ _ | refine blk_drew ?_ | refine blk_alloc ?_ _)); exact BK258.out) hb); have n1_ := Aside0.mk (below_step (by repeat (first | (with_reducible first | exact HB.out | apply below_alloc | apply pw_below_drewN | apply below_drew1 | refine below_set ?_ GE258.out) | exact HB.out)) hb); clear BK258; clear HB; have BK258 := n0_; have HB := n1_; clear n0_ n1_; (try clear hb); (try clear hb2); (try clear hk); (try clear hi); obtain ⟨hcz8_0, hcz8_1, hcz8_2, hcz8_3, hcz8_4, hcz8_5, hcz8_6, hcz8_7, hcz8_8, hcz8_9, hcz8_10, hcz8_11, hcz8_12⟩ := cell13 BK258.out; obtain ⟨hfz8_0, hfz8_1, hfz8_2, hfz8_3, hfz8_4, hfz8_5, hfz8_6, hfz8_7, hfz8_8, hfz8_9, hfz8_10, hfz8_11, hfz8_12⟩ := froz13 BK258.out) | ((with_reducible refine gate_callee (f := 27) rfl ?_); refine goesL_ (some 11) rfl rfl Tryd.func27 (by kernel_rfl) rfl #[.agg #[.int .i64 a0_0, .int .i64 a0_1, .int .i64 a0_2, .string a0_3, .string a0_4, .string a0_5, .int .i64 a0_6, .string a0_7, .int .i64 a0_8, .int .i64 a0_9, .int .i64 a0_10, .bool a0_11, .string a0_12]] rfl (by (try simp only [List.map_toArray, List.map_cons, List.map_nil]); first | done | rfl | (simp only [List.length_drop, List.length_take]; rfl)) ?_; (with_reducible refine (gongref23_Put.calls k a0_0 a0_1 a0_2 a0_3 a0_4 a0_5 a0_6 a0_7 a0_8 a0_9 a0_10 a0_11 a0_12 t260 _ A4.out).mono ?_); rintro e w9 ⟨rfl, hb⟩; refine ⟨_, rfl, ?_⟩; have n0_ := Aside0.mk (blk_below (g := gb258) (o := .cells #[.int .i64 a0_0, .int .i64 a0_1, .int .i64 a0_2, .string a0_3, .string a0_4, .string a0_5, .int .i64 a0_6, .string a0_7, .int .i64 a0_8, .int .i64 a0_9, .int .i64 a0_10, .bool a0_11, .string a0_12] 27 (0, 0)) (by (with_reducible repeat (first | refine blk_drewN ?_ _ | refine blk_drew ?_ | refine blk_alloc ?_ _)); exact BK258.out) hb); have n1_ := Aside0.mk (below_step (by repeat (first | (with_reducible first | exact HB.out | apply below_alloc | apply pw_below_drewN | apply below_drew1 | refine below_set ?_ GE258.out) | exact HB.out)) hb); clear BK258; clear HB; have BK258 := n0_; have HB := n1_; clear n0_ n1_; (try clear hb); (try clear hb2); (try clear hk); (try clear hi)))
    go_ret2
    exact ⟨by first | rfl | (simp [errW_none, errW_some] <;> rfl) | (simp [*, errW_none, errW_some] <;> rfl), by repeat (first | (with_reducible first | exact HB.out | apply below_alloc | apply pw_below_drewN | apply below_drew1 | refine below_set ?_ GE258.out) | exact HB.out)⟩
  · rw [if_neg c3] at H
    have c3b0 : (t259 == 0) = false := beq_eq_false_iff_ne.mpr c3
    have c3b1 : (t259 != 0) = true := bne_iff_ne.mpr c3
    simp only [Option.some.injEq, Prod.mk.injEq] at H
    obtain ⟨rfl, rfl⟩ := H
    go_enter Tryd.func10, Tryd.ntmps10
    go_wp2_with (first | ((with_reducible refine gate_dst (N := 1) rfl ?_); refine box_event ?hg (N := 1) ?hd (cs := #[.int .i64 a0_0, .int .i64 a0_1, .int .i64 a0_2, .string a0_3, .string a0_4, .string a0_5, .int .i64 a0_6, .string a0_7, .int .i64 a0_8, .int .i64 a0_9, .int .i64 a0_10, .bool a0_11, .string a0_12]) (t := 27) ?hr ?_; (case hd => rfl); (case hg => rfl); (case hr => first | (go_simp; done) | (go_simp; rfl)); intro gb258 hg w10 hbox hb; have n0_ := Aside0.mk (below_step (by repeat (first | (with_reducible first | exact HB.out | apply below_alloc | apply pw_below_drewN | apply below_drew1) | exact HB.out)) hb); have n1_ := Aside0.mk (hbox); have n2_ := Aside0.mk ((by rw [hg]; exact (below_size (by repeat (first | (with_reducible first | exact HB.out | apply below_alloc | apply pw_below_drewN | apply below_drew1) | exact HB.out))) : w.heap.size ≤ gb258)); have n3_ := Aside0.mk ((by rw [hg]; exact (below_size (by repeat (first | (with_reducible first | exact HB.out | apply below_alloc | apply pw_below_drewN | apply below_drew1) | exact HB.out))) : w.heap.size ≤ gb258)); clear HB; have HB := n0_; have BK258 := n1_; have GW258 := n2_; have GE258 := n3_; clear n0_ n1_ n2_ n3_; clear hb hbox hg; obtain ⟨hcz11_0, hcz11_1, hcz11_2, hcz11_3, hcz11_4, hcz11_5, hcz11_6, hcz11_7, hcz11_8, hcz11_9, hcz11_10, hcz11_11, hcz11_12⟩ := cell13 BK258.out; obtain ⟨hfz11_0, hfz11_1, hfz11_2, hfz11_3, hfz11_4, hfz11_5, hfz11_6, hfz11_7, hfz11_8, hfz11_9, hfz11_10, hfz11_11, hfz11_12⟩ := froz13 BK258.out) | ((with_reducible refine gate_callee (f := 16) rfl ?_); refine goesL_ (some 6) rfl rfl Tryd.func16 (by kernel_rfl) rfl #[.agg #[.int .i64 a0_0, .int .i64 a0_1, .int .i64 a0_2, .string a0_3, .string a0_4, .string a0_5, .int .i64 a0_6, .string a0_7, .int .i64 a0_8, .int .i64 a0_9, .int .i64 a0_10, .bool a0_11, .string a0_12]] rfl (by (try simp only [List.map_toArray, List.map_cons, List.map_nil]); first | done | rfl | (simp only [List.length_drop, List.length_take]; rfl)) ?_; (with_reducible refine (gongref23_Check.calls k a0_0 a0_1 a0_2 a0_3 a0_4 a0_5 a0_6 a0_7 a0_8 a0_9 a0_10 a0_11 a0_12 t259 _ A2.out).mono ?_); rintro e w12 ⟨rfl, hb⟩; refine ⟨_, rfl, ?_⟩; have n0_ := Aside0.mk (blk_below (g := gb258) (o := .cells #[.int .i64 a0_0, .int .i64 a0_1, .int .i64 a0_2, .string a0_3, .string a0_4, .string a0_5, .int .i64 a0_6, .string a0_7, .int .i64 a0_8, .int .i64 a0_9, .int .i64 a0_10, .bool a0_11, .string a0_12] 27 (0, 0)) (by (with_reducible repeat (first | refine blk_drewN ?_ _ | refine blk_drew ?_ | refine blk_alloc ?_ _)); exact BK258.out) hb); have n1_ := Aside0.mk (below_step (by repeat (first | (with_reducible first | exact HB.out | apply below_alloc | apply pw_below_drewN | apply below_drew1 | refine below_set ?_ GE258.out) | exact HB.out)) hb); clear BK258; clear HB; have BK258 := n0_; have HB := n1_; clear n0_ n1_; (try clear hb); (try clear hb2); (try clear hk); (try clear hi)))
    go_ret2
    exact ⟨by first | rfl | (simp [errW_none, errW_some] <;> rfl) | (simp [*, errW_none, errW_some] <;> rfl), by repeat (first | (with_reducible first | exact HB.out | apply below_alloc | apply pw_below_drewN | apply below_drew1 | refine below_set ?_ GE258.out) | exact HB.out)⟩
def ticket_Encode.f (k : Nat) (a0_0 : Int) (a0_1 : Int) (a0_2 : Int) (a0_3 : ByteArray) (a0_4 : ByteArray) (a0_5 : ByteArray) (a0_6 : Int) (a0_7 : ByteArray) (a0_8 : Int) (a0_9 : Int) (a0_10 : Int) (a0_11 : Bool) (a0_12 : ByteArray) : Option (ByteArray × Int) := (ticket_Payload.f k a0_0 a0_1 a0_2 a0_3 a0_4 a0_5 a0_6 a0_7 a0_8 a0_9 a0_10 a0_11 a0_12).bind fun bt262 => (if bt262.2 = 0 then ((ticket_groups.f k (([a0_0] : List Int))).bind fun t267 => (if 1 + t267.size ≤ 9223372036854775807 then (if ((⟨#[71]⟩ : ByteArray) ++ t267).size + bt262.1.size ≤ 9223372036854775807 then ((crc_Tag.f (((⟨#[71]⟩ : ByteArray) ++ t267) ++ bt262.1)).bind fun t268 => (some (t268, 0))) else (none)) else (none))) else (some ((⟨#[]⟩ : ByteArray), bt262.2)))
set_option maxHeartbeats 8000000 in
set_option maxRecDepth 100000 in
theorem ticket_Encode.calls (k : Nat) (a0_0 : Int) (a0_1 : Int) (a0_2 : Int) (a0_3 : ByteArray) (a0_4 : ByteArray) (a0_5 : ByteArray) (a0_6 : Int) (a0_7 : ByteArray) (a0_8 : Int) (a0_9 : Int) (a0_10 : Int) (a0_11 : Bool) (a0_12 : ByteArray) (r1 : ByteArray) (r2 : Int) (w : World) (HT : Aside0 (TabW w)) (h : ticket_Encode.f k a0_0 a0_1 a0_2 a0_3 a0_4 a0_5 a0_6 a0_7 a0_8 a0_9 a0_10 a0_11 a0_12 = some (r1, r2)) :
    Calls Tryd.prog 11 #[.agg #[.int .i64 a0_0, .int .i64 a0_1, .int .i64 a0_2, .string a0_3, .string a0_4, .string a0_5, .int .i64 a0_6, .string a0_7, .int .i64 a0_8, .int .i64 a0_9, .int .i64 a0_10, .bool a0_11, .string a0_12]] w fun e w' => e = .returned (.tuple #[.string r1, .int .i64 r2]) ∧ Below w.heap.size w w' := by
  have hu27 := Tryd.underlying27
  have HB := Aside0.mk (Below.refl w.heap.size w)
  have H : ((ticket_Payload.f k a0_0 a0_1 a0_2 a0_3 a0_4 a0_5 a0_6 a0_7 a0_8 a0_9 a0_10 a0_11 a0_12).bind fun bt262 => (if bt262.2 = 0 then ((ticket_groups.f k (([a0_0] : List Int))).bind fun t267 => (if 1 + t267.size ≤ 9223372036854775807 then (if ((⟨#[71]⟩ : ByteArray) ++ t267).size + bt262.1.size ≤ 9223372036854775807 then ((crc_Tag.f (((⟨#[71]⟩ : ByteArray) ++ t267) ++ bt262.1)).bind fun t268 => (some (t268, 0))) else (none)) else (none))) else (some ((⟨#[]⟩ : ByteArray), bt262.2)))) = some (r1, r2) := h
  clear h
  replace H := Option.bind_eq_some_iff.mp H
  obtain ⟨⟨t262, t263⟩, A20, H⟩ := H
  replace H : (if t263 = 0 then ((ticket_groups.f k (([a0_0] : List Int))).bind fun t267 => (if 1 + t267.size ≤ 9223372036854775807 then (if ((⟨#[71]⟩ : ByteArray) ++ t267).size + t262.size ≤ 9223372036854775807 then ((crc_Tag.f (((⟨#[71]⟩ : ByteArray) ++ t267) ++ t262)).bind fun t268 => (some (t268, 0))) else (none)) else (none))) else (some ((⟨#[]⟩ : ByteArray), t263))) = some (r1, r2) := H
  have A2 := Aside0.mk A20
  clear A20
  by_cases c3 : t263 = 0
  · rw [if_pos c3] at H
    have c3b0 : (t263 == 0) = true := beq_iff_eq.mpr c3
    have c3b1 : (t263 != 0) = false := bne_eq_false_iff_eq.mpr c3
    clear c3
    obtain ⟨y264, hy264⟩ : ∃ y_ : List Int, y_ = (([a0_0] : List Int)) := ⟨_, rfl⟩
    replace H : ((ticket_groups.f k y264).bind fun t267 => (if 1 + t267.size ≤ 9223372036854775807 then (if ((⟨#[71]⟩ : ByteArray) ++ t267).size + t262.size ≤ 9223372036854775807 then ((crc_Tag.f (((⟨#[71]⟩ : ByteArray) ++ t267) ++ t262)).bind fun t268 => (some (t268, 0))) else (none)) else (none))) = some (r1, r2) := by first | (rw [hy264]; with_reducible exact H) | (have H2_ := (Option.bind_some _ _).symm.trans H; rw [hy264]; with_reducible exact H2_) | (have H2_ := (Option.bind_some _ _).symm.trans H; with_reducible exact H2_) | with_reducible exact H | (rw [hy264]; exact H) | exact H
    have Ny264 := Aside0.mk hy264
    clear hy264
    replace H := Option.bind_eq_some_iff.mp H
    obtain ⟨t267, A40, H⟩ := H
    replace H : (if 1 + t267.size ≤ 9223372036854775807 then (if ((⟨#[71]⟩ : ByteArray) ++ t267).size + t262.size ≤ 9223372036854775807 then ((crc_Tag.f (((⟨#[71]⟩ : ByteArray) ++ t267) ++ t262)).bind fun t268 => (some (t268, 0))) else (none)) else (none)) = some (r1, r2) := H
    have A4 := Aside0.mk A40
    clear A40
    by_cases c5 : 1 + t267.size ≤ 9223372036854775807
    · rw [if_pos c5] at H
      have c5b0 := eq_true c5
      have c5b1 : decide (1 + t267.size ≤ 9223372036854775807) = true := decide_eq_true c5
      try have c5b2 : (9223372036854775807 < 1 + t267.size) = False := eq_false (Nat.not_lt.2 c5)
      by_cases c6 : ((⟨#[71]⟩ : ByteArray) ++ t267).size + t262.size ≤ 9223372036854775807
      · rw [if_pos c6] at H
        have c6b0 := eq_true c6
        have c6b1 : decide (((⟨#[71]⟩ : ByteArray) ++ t267).size + t262.size ≤ 9223372036854775807) = true := decide_eq_true c6
        try have c6b2 : (9223372036854775807 < ((⟨#[71]⟩ : ByteArray) ++ t267).size + t262.size) = False := eq_false (Nat.not_lt.2 c6)
        try have c6s2 : (9223372036854775807 < 1 + (t267).size + t262.size) = False := eq_false (by have z_ := c6; simp only [ByteArray.size_append] at z_; have y0_ : (⟨#[71]⟩ : ByteArray).size = 1 := rfl; omega)
        replace H := Option.bind_eq_some_iff.mp H
        obtain ⟨t268, A70, H⟩ := H
        replace H : (some (t268, 0)) = some (r1, r2) := H
        have A7 := Aside0.mk A70
        clear A70
        simp only [Option.some.injEq, Prod.mk.injEq] at H
        obtain ⟨rfl, rfl⟩ := H
        go_enter Tryd.func11, Tryd.ntmps11
        go_wp2_with (first | ((with_reducible refine gate_dst (N := 1) rfl ?_); refine box_event ?hg (N := 1) ?hd (cs := #[.int .i64 a0_0, .int .i64 a0_1, .int .i64 a0_2, .string a0_3, .string a0_4, .string a0_5, .int .i64 a0_6, .string a0_7, .int .i64 a0_8, .int .i64 a0_9, .int .i64 a0_10, .bool a0_11, .string a0_12]) (t := 27) ?hr ?_; (case hd => rfl); (case hg => rfl); (case hr => first | (go_simp; done) | (go_simp; rfl)); intro gb261 hg w8 hbox hb; have n0_ := Aside0.mk (below_step (by repeat (first | (with_reducible first | exact HB.out | apply below_alloc | apply pw_below_drewN | apply below_drew1) | exact HB.out)) hb); have n1_ := Aside0.mk (hbox); have n2_ := Aside0.mk ((by rw [hg]; exact (below_size (by repeat (first | (with_reducible first | exact HB.out | apply below_alloc | apply pw_below_drewN | apply below_drew1) | exact HB.out))) : w.heap.size ≤ gb261)); have n3_ := Aside0.mk ((by rw [hg]; exact (below_size (by repeat (first | (with_reducible first | exact HB.out | apply below_alloc | apply pw_below_drewN | apply below_drew1) | exact HB.out))) : w.heap.size ≤ gb261)); clear HB; have HB := n0_; have BK261 := n1_; have GW261 := n2_; have GE261 := n3_; clear n0_ n1_ n2_ n3_; clear hb hbox hg; obtain ⟨hcz9_0, hcz9_1, hcz9_2, hcz9_3, hcz9_4, hcz9_5, hcz9_6, hcz9_7, hcz9_8, hcz9_9, hcz9_10, hcz9_11, hcz9_12⟩ := cell13 BK261.out; obtain ⟨hfz9_0, hfz9_1, hfz9_2, hfz9_3, hfz9_4, hfz9_5, hfz9_6, hfz9_7, hfz9_8, hfz9_9, hfz9_10, hfz9_11, hfz9_12⟩ := froz13 BK261.out) | ((with_reducible refine gate_callee (f := 9) rfl ?_); refine goesL_ (some 8) rfl rfl Tryd.func9 (by kernel_rfl) rfl #[.agg #[.int .i64 a0_0, .int .i64 a0_1, .int .i64 a0_2, .string a0_3, .string a0_4, .string a0_5, .int .i64 a0_6, .string a0_7, .int .i64 a0_8, .int .i64 a0_9, .int .i64 a0_10, .bool a0_11, .string a0_12]] rfl (by (try simp only [List.map_toArray, List.map_cons, List.map_nil]); first | done | rfl | (simp only [List.length_drop, List.length_take]; rfl)) ?_; (with_reducible refine (ticket_Payload.calls k a0_0 a0_1 a0_2 a0_3 a0_4 a0_5 a0_6 a0_7 a0_8 a0_9 a0_10 a0_11 a0_12 t262 t263 _ ⟨TabW.now HT.out (by repeat (first | (with_reducible first | exact HB.out | apply below_alloc | apply pw_below_drewN | apply below_drew1 | refine below_set ?_ GE261.out) | exact HB.out))⟩ A2.out).mono ?_); rintro e w10 ⟨rfl, hb⟩; refine ⟨_, rfl, ?_⟩; have n0_ := Aside0.mk (blk_below (g := gb261) (o := .cells #[.int .i64 a0_0, .int .i64 a0_1, .int .i64 a0_2, .string a0_3, .string a0_4, .string a0_5, .int .i64 a0_6, .string a0_7, .int .i64 a0_8, .int .i64 a0_9, .int .i64 a0_10, .bool a0_11, .string a0_12] 27 (0, 0)) (by (with_reducible repeat (first | refine blk_drewN ?_ _ | refine blk_drew ?_ | refine blk_alloc ?_ _)); exact BK261.out) hb); have n1_ := Aside0.mk (below_step (by repeat (first | (with_reducible first | exact HB.out | apply below_alloc | apply pw_below_drewN | apply below_drew1 | refine below_set ?_ GE261.out) | exact HB.out)) hb); clear BK261; clear HB; have BK261 := n0_; have HB := n1_; clear n0_ n1_; (try clear hb); (try clear hb2); (try clear hk); (try clear hi); obtain ⟨hcz11_0, hcz11_1, hcz11_2, hcz11_3, hcz11_4, hcz11_5, hcz11_6, hcz11_7, hcz11_8, hcz11_9, hcz11_10, hcz11_11, hcz11_12⟩ := cell13 BK261.out; obtain ⟨hfz11_0, hfz11_1, hfz11_2, hfz11_3, hfz11_4, hfz11_5, hfz11_6, hfz11_7, hfz11_8, hfz11_9, hfz11_10, hfz11_11, hfz11_12⟩ := froz13 BK261.out) | ((with_reducible refine gate_dst (N := 16) rfl ?_); refine Kd.R_lit (Kd.int .i64) _ 3 ?hg (N := 16) ?hd (xs := ([a0_0] : List Int)) (inner := [.int .i64 a0_0]) (ok := fun _ => True) (okp := fun _ => True) ?hr ?hp (fun _ hk => hk) trivial (Below.refl _ _) (Nat.le_refl _) (by simp) ?_; (case hd => rfl); (case hg => rfl); (case hr => first | (go_simp; done) | (go_simp; rfl)); (case hp => exact (Reps.one (show Kd.M (Kd.int .i64) _ _ _ a0_0 [.int .i64 a0_0] from rfl) (Reps.none _ _))); intro v265 w12 ho13 hb hg_ hnew_; clear hg_ hnew_; (first | rw [← Ny264.out] at ho13 | (simp only [Int.reduceToNat] at ho13; rw [← Ny264.out] at ho13)); have n0_ := Aside0.mk (Kd.R_lower ho13 (below_size (by repeat (first | (with_reducible first | exact HB.out | apply below_alloc | apply pw_below_drewN | apply below_drew1 | refine below_set ?_ GE261.out) | exact HB.out)))); have n1_ := Aside0.mk (blk_below (g := gb261) (o := .cells #[.int .i64 a0_0, .int .i64 a0_1, .int .i64 a0_2, .string a0_3, .string a0_4, .string a0_5, .int .i64 a0_6, .string a0_7, .int .i64 a0_8, .int .i64 a0_9, .int .i64 a0_10, .bool a0_11, .string a0_12] 27 (0, 0)) (by (with_reducible repeat (first | refine blk_drewN ?_ _ | refine blk_drew ?_ | refine blk_alloc ?_ _)); exact BK261.out) hb); have n2_ := Aside0.mk (below_step (by repeat (first | (with_reducible first | exact HB.out | apply below_alloc | apply pw_below_drewN | apply below_drew1 | refine below_set ?_ GE261.out) | exact HB.out)) hb); clear BK261; clear HB; have HO266 := n0_; have BK261 := n1_; have HB := n2_; clear n0_ n1_ n2_; clear hb ho13; obtain ⟨Ao14, co14, eo14⟩ := Kd.R_slice HO266.out; subst eo14) | ((with_reducible refine gate_callee (f := 25) rfl ?_); refine goesL_ (some 17) rfl rfl Tryd.func25 (by kernel_rfl) rfl #[.slice Ao14 y264.length co14] rfl (by (try simp only [List.map_toArray, List.map_cons, List.map_nil]); first | done | rfl | (simp only [List.length_drop, List.length_take]; rfl)) ?_; (with_reducible refine (ticket_groups.calls k _ _ y264 t267 _ ?side1 ?side2 A4.out).mono ?_); (case side1 => repeat (first | exact (Kd.R_reads' HO266.out).2.2 | (with_reducible refine Kd.C_alloc ?_ _) | (with_reducible refine Kd.C_drewN ?_ _) | (with_reducible refine Kd.C_drew ?_))); (case side2 => exact (Kd.R_reads' HO266.out).2.1); rintro e w15 ⟨rfl, hb⟩; refine ⟨_, rfl, ?_⟩; have n0_ := Aside0.mk (Kd.R_below (by (with_reducible repeat (first | apply Kd.R_alloc | apply Kd.R_drewN | apply Kd.R_drew)); exact HO266.out) hb); have n1_ := Aside0.mk (blk_below (g := gb261) (o := .cells #[.int .i64 a0_0, .int .i64 a0_1, .int .i64 a0_2, .string a0_3, .string a0_4, .string a0_5, .int .i64 a0_6, .string a0_7, .int .i64 a0_8, .int .i64 a0_9, .int .i64 a0_10, .bool a0_11, .string a0_12] 27 (0, 0)) (by (with_reducible repeat (first | refine blk_drewN ?_ _ | refine blk_drew ?_ | refine blk_alloc ?_ _)); exact BK261.out) hb); have n2_ := Aside0.mk (below_step (by repeat (first | (with_reducible first | exact HB.out | apply below_alloc | apply pw_below_drewN | apply below_drew1 | refine below_set ?_ GE261.out) | exact HB.out)) hb); clear HO266; clear BK261; clear HB; have HO266 := n0_; have BK261 := n1_; have HB := n2_; clear n0_ n1_ n2_; (try clear hb); (try clear hb2); (try clear hk); (try clear hi)) | ((with_reducible refine gate_callee (f := 23) rfl ?_); refine goesL_ (some 21) rfl rfl Tryd.func23 (by kernel_rfl) rfl #[.string (((⟨#[71]⟩ : ByteArray) ++ t267) ++ t262)] rfl (by (try simp only [List.map_toArray, List.map_cons, List.map_nil]); first | done | rfl | (simp only [List.length_drop, List.length_take]; rfl)) ?_; (with_reducible refine (crc_Tag.calls (((⟨#[71]⟩ : ByteArray) ++ t267) ++ t262) t268 _ ⟨TabW.now HT.out (by repeat (first | (with_reducible first | exact HB.out | apply below_alloc | apply pw_below_drewN | apply below_drew1 | refine below_set ?_ GE261.out) | exact HB.out))⟩ A7.out).mono ?_); rintro e w16 ⟨rfl, hb⟩; refine ⟨_, rfl, ?_⟩; have n0_ := Aside0.mk (Kd.R_below (by (with_reducible repeat (first | apply Kd.R_alloc | apply Kd.R_drewN | apply Kd.R_drew)); exact HO266.out) hb); have n1_ := Aside0.mk (blk_below (g := gb261) (o := .cells #[.int .i64 a0_0, .int .i64 a0_1, .int .i64 a0_2, .string a0_3, .string a0_4, .string a0_5, .int .i64 a0_6, .string a0_7, .int .i64 a0_8, .int .i64 a0_9, .int .i64 a0_10, .bool a0_11, .string a0_12] 27 (0, 0)) (by (with_reducible repeat (first | refine blk_drewN ?_ _ | refine blk_drew ?_ | refine blk_alloc ?_ _)); exact BK261.out) hb); have n2_ := Aside0.mk (below_step (by repeat (first | (with_reducible first | exact HB.out | apply below_alloc | apply pw_below_drewN | apply below_drew1 | refine below_set ?_ GE261.out) | exact HB.out)) hb); clear HO266; clear BK261; clear HB; have HO266 := n0_; have BK261 := n1_; have HB := n2_; clear n0_ n1_ n2_; (try clear hb); (try clear hb2); (try clear hk); (try clear hi)))
        go_ret2
        exact ⟨by first | rfl | (simp [errW_none, errW_some] <;> rfl) | (simp [*, errW_none, errW_some] <;> rfl), by repeat (first | (with_reducible first | exact HB.out | apply below_alloc | apply pw_below_drewN | apply below_drew1 | refine below_set ?_ GE261.out) | exact HB.out)⟩
      · rw [if_neg c6] at H
        exact absurd H (by simp)
    · rw [if_neg c5] at H
      exact absurd H (by simp)
  · rw [if_neg c3] at H
    have c3b0 : (t263 == 0) = false := beq_eq_false_iff_ne.mpr c3
    have c3b1 : (t263 != 0) = true := bne_iff_ne.mpr c3
    simp only [Option.some.injEq, Prod.mk.injEq] at H
    obtain ⟨rfl, rfl⟩ := H
    go_enter Tryd.func11, Tryd.ntmps11
    go_wp2_with (first | ((with_reducible refine gate_dst (N := 1) rfl ?_); refine box_event ?hg (N := 1) ?hd (cs := #[.int .i64 a0_0, .int .i64 a0_1, .int .i64 a0_2, .string a0_3, .string a0_4, .string a0_5, .int .i64 a0_6, .string a0_7, .int .i64 a0_8, .int .i64 a0_9, .int .i64 a0_10, .bool a0_11, .string a0_12]) (t := 27) ?hr ?_; (case hd => rfl); (case hg => rfl); (case hr => first | (go_simp; done) | (go_simp; rfl)); intro gb261 hg w17 hbox hb; have n0_ := Aside0.mk (below_step (by repeat (first | (with_reducible first | exact HB.out | apply below_alloc | apply pw_below_drewN | apply below_drew1) | exact HB.out)) hb); have n1_ := Aside0.mk (hbox); have n2_ := Aside0.mk ((by rw [hg]; exact (below_size (by repeat (first | (with_reducible first | exact HB.out | apply below_alloc | apply pw_below_drewN | apply below_drew1) | exact HB.out))) : w.heap.size ≤ gb261)); have n3_ := Aside0.mk ((by rw [hg]; exact (below_size (by repeat (first | (with_reducible first | exact HB.out | apply below_alloc | apply pw_below_drewN | apply below_drew1) | exact HB.out))) : w.heap.size ≤ gb261)); clear HB; have HB := n0_; have BK261 := n1_; have GW261 := n2_; have GE261 := n3_; clear n0_ n1_ n2_ n3_; clear hb hbox hg; obtain ⟨hcz18_0, hcz18_1, hcz18_2, hcz18_3, hcz18_4, hcz18_5, hcz18_6, hcz18_7, hcz18_8, hcz18_9, hcz18_10, hcz18_11, hcz18_12⟩ := cell13 BK261.out; obtain ⟨hfz18_0, hfz18_1, hfz18_2, hfz18_3, hfz18_4, hfz18_5, hfz18_6, hfz18_7, hfz18_8, hfz18_9, hfz18_10, hfz18_11, hfz18_12⟩ := froz13 BK261.out) | ((with_reducible refine gate_callee (f := 9) rfl ?_); refine goesL_ (some 8) rfl rfl Tryd.func9 (by kernel_rfl) rfl #[.agg #[.int .i64 a0_0, .int .i64 a0_1, .int .i64 a0_2, .string a0_3, .string a0_4, .string a0_5, .int .i64 a0_6, .string a0_7, .int .i64 a0_8, .int .i64 a0_9, .int .i64 a0_10, .bool a0_11, .string a0_12]] rfl (by (try simp only [List.map_toArray, List.map_cons, List.map_nil]); first | done | rfl | (simp only [List.length_drop, List.length_take]; rfl)) ?_; (with_reducible refine (ticket_Payload.calls k a0_0 a0_1 a0_2 a0_3 a0_4 a0_5 a0_6 a0_7 a0_8 a0_9 a0_10 a0_11 a0_12 t262 t263 _ ⟨TabW.now HT.out (by repeat (first | (with_reducible first | exact HB.out | apply below_alloc | apply pw_below_drewN | apply below_drew1 | refine below_set ?_ GE261.out) | exact HB.out))⟩ A2.out).mono ?_); rintro e w19 ⟨rfl, hb⟩; refine ⟨_, rfl, ?_⟩; have n0_ := Aside0.mk (blk_below (g := gb261) (o := .cells #[.int .i64 a0_0, .int .i64 a0_1, .int .i64 a0_2, .string a0_3, .string a0_4, .string a0_5, .int .i64 a0_6, .string a0_7, .int .i64 a0_8, .int .i64 a0_9, .int .i64 a0_10, .bool a0_11, .string a0_12] 27 (0, 0)) (by (with_reducible repeat (first | refine blk_drewN ?_ _ | refine blk_drew ?_ | refine blk_alloc ?_ _)); exact BK261.out) hb); have n1_ := Aside0.mk (below_step (by repeat (first | (with_reducible first | exact HB.out | apply below_alloc | apply pw_below_drewN | apply below_drew1 | refine below_set ?_ GE261.out) | exact HB.out)) hb); clear BK261; clear HB; have BK261 := n0_; have HB := n1_; clear n0_ n1_; (try clear hb); (try clear hb2); (try clear hk); (try clear hi)))
    go_ret2
    exact ⟨by first | rfl | (simp [errW_none, errW_some] <;> rfl) | (simp [*, errW_none, errW_some] <;> rfl), by repeat (first | (with_reducible first | exact HB.out | apply below_alloc | apply pw_below_drewN | apply below_drew1 | refine below_set ?_ GE261.out) | exact HB.out)⟩
def gongref01_Padded.l0 : Nat → Int → Int → ByteArray → Int → Option (ByteArray)
  | 0, _, _, _, _ => none
  | k + 1, x0, x1, x5, x6 => if x6 < x1 then ((some (([(Int.tmod x0 256) % 256] : List Int) : List Int)).bind fun y269 => (if (strOfNums y269).size + x5.size ≤ 9223372036854775807 then (gongref01_Padded.l0 k (wrap64 (Int.tdiv x0 256)) x1 ((strOfNums y269) ++ x5) (wrap64 (x6 + 1))) else (none))) else (some x5)
def gongref01_Padded.f (k : Nat) (a0 : Int) (a1 : Int) : Option (ByteArray) := gongref01_Padded.l0 k a0 a1 (⟨#[]⟩ : ByteArray) 0
set_option maxHeartbeats 8000000 in
set_option maxRecDepth 100000 in
theorem gongref01_Padded.calls (k : Nat) (a0 : Int) (a1 : Int) (r : ByteArray) (w : World) (h : gongref01_Padded.f k a0 a1 = some r) :
    Calls Tryd.prog 49 #[.int .i64 a0, .int .i64 a1] w fun e w' => e = .returned (.string r) ∧ Below w.heap.size w w' := by
  have HB := Aside0.mk (Below.refl w.heap.size w)
  have H : (gongref01_Padded.l0 k a0 a1 (⟨#[]⟩ : ByteArray) 0) = some r := h
  clear h
  have H' := Aside0.mk H
  clear H
  go_enter Tryd.func49, Tryd.ntmps49
  go_wp2
  go_loopg [0, 5, 6] k (fun kq v0 v5 v6 w' => ∃ (x0_1 : Int) (x5_1 : ByteArray) (x6_1 : Int), v0 = .int .i64 x0_1 ∧ v5 = .string x5_1 ∧ v6 = .int .i64 x6_1 ∧ Aside0 (gongref01_Padded.l0 kq x0_1 a1 x5_1 x6_1 = some r) ∧ Aside0 (kq ≤ k) ∧ Aside0 (Below w.heap.size w w'))
  case atStart => exact ⟨(a0), ((⟨#[]⟩ : ByteArray)), (0), (by first | rfl | (simp; done) | (simp [*]; done)), (by first | rfl | (simp; done) | (simp [*]; done)), (by first | rfl | (simp; done) | (simp [*]; done)), H', ⟨Nat.le_refl _⟩, ⟨by repeat (first | (with_reducible first | exact HB.out | apply below_alloc | apply pw_below_drewN | apply below_drew1) | exact HB.out)⟩⟩
  case round =>
    clear H'
    try clear p2
    obtain ⟨x0_1, x5_1, x6_1, rfl, rfl, rfl, HA, HK1, HB⟩ := hrel
    cases gk with
    | zero => exact absurd HA.out (by simp [gongref01_Padded.l0])
    | succ k1 =>
      have H := HA.out
      clear HA
      simp only [gongref01_Padded.l0] at H
      by_cases c3 : x6_1 < a1
      · rw [if_pos c3] at H
        have c3b0 : decide (x6_1 < a1) = true := decide_eq_true c3
        clear c3
        obtain ⟨y269, hy269⟩ : ∃ y_ : List Int, y_ = (([(Int.tmod x0_1 256) % 256] : List Int)) := ⟨_, rfl⟩
        replace H : (if (strOfNums y269).size + x5_1.size ≤ 9223372036854775807 then (gongref01_Padded.l0 k1 (wrap64 (Int.tdiv x0_1 256)) a1 ((strOfNums y269) ++ x5_1) (wrap64 (x6_1 + 1))) else (none)) = some r := by first | (rw [hy269]; with_reducible exact H) | (have H2_ := (Option.bind_some _ _).symm.trans H; rw [hy269]; with_reducible exact H2_) | (have H2_ := (Option.bind_some _ _).symm.trans H; with_reducible exact H2_) | with_reducible exact H | (rw [hy269]; exact H) | exact H
        have Ny269 := Aside0.mk hy269
        clear hy269
        by_cases c4 : (strOfNums y269).size + x5_1.size ≤ 9223372036854775807
        · rw [if_pos c4] at H
          have c4b0 := eq_true c4
          have c4b1 : decide ((strOfNums y269).size + x5_1.size ≤ 9223372036854775807) = true := decide_eq_true c4
          try have c4b2 : (9223372036854775807 < (strOfNums y269).size + x5_1.size) = False := eq_false (Nat.not_lt.2 c4)
          have H' := Aside0.mk H
          clear H
          go_wp2_with (first | ((with_reducible refine gate_dst (N := 15) rfl ?_); refine Kd.R_lit (Kd.int .u8) _ 5 ?hg (N := 15) ?hd (xs := ([(Int.tmod x0_1 256) % 256] : List Int)) (inner := [.int .u8 ((Int.tmod x0_1 256) % 256)]) (ok := fun _ => True) (okp := fun _ => True) ?hr ?hp (fun _ hk => hk) trivial (Below.refl _ _) (Nat.le_refl _) (by simp) ?_; (case hd => rfl); (case hg => rfl); (case hr => first | (go_simp; done) | (go_simp; rfl)); (case hp => exact (Reps.one (show Kd.M (Kd.int .u8) _ _ _ ((Int.tmod x0_1 256) % 256) [.int .u8 ((Int.tmod x0_1 256) % 256)] from rfl) (Reps.none _ _))); intro v270 w5 ho6 hb hg_ hnew_; clear hg_ hnew_; (first | rw [← Ny269.out] at ho6 | (simp only [Int.reduceToNat] at ho6; rw [← Ny269.out] at ho6)); have n0_ := Aside0.mk (Kd.R_lower ho6 (below_size (by repeat (first | (with_reducible first | exact HB.out | apply below_alloc | apply pw_below_drewN | apply below_drew1) | exact HB.out)))); have n1_ := Aside0.mk (below_step (by repeat (first | (with_reducible first | exact HB.out | apply below_alloc | apply pw_below_drewN | apply below_drew1) | exact HB.out)) hb); clear HB; have HO271 := n0_; have HB := n1_; clear n0_ n1_; clear hb ho6; have hcv7 := own_string (P := Tryd.prog) Tryd.underlying44 Tryd.underlying5 Tryd.underlying9 (Kd.own_of_R HO271.out)))
          go_roundg k1
          case measure => have := HK1.out; omega
          case rel => exact ⟨(wrap64 (Int.tdiv x0_1 256)), ((strOfNums y269) ++ x5_1), (wrap64 (x6_1 + 1)), (by first | rfl | (simp; done) | (simp [*]; done)), (by first | rfl | (simp; done) | (simp [*]; done)), (by first | rfl | (simp; done) | (simp [*]; done)), H', ⟨by have := HK1.out; omega⟩, ⟨by repeat (first | (with_reducible first | exact HB.out | apply below_alloc | apply pw_below_drewN | apply below_drew1) | exact HB.out)⟩⟩
        · rw [if_neg c4] at H
          exact absurd H (by simp)
      · rw [if_neg c3] at H
        have c3b0 : decide (x6_1 < a1) = false := decide_eq_false c3
        clear c3
        obtain rfl := Option.some.inj H
        go_wp2
        go_ret
        exact ⟨by first | rfl | (simp [errW_none, errW_some] <;> rfl) | (simp [*, errW_none, errW_some] <;> rfl), by repeat (first | (with_reducible first | exact HB.out | apply below_alloc | apply pw_below_drewN | apply below_drew1) | exact HB.out)⟩
def gongref02_step.l0 : Nat → Int → Int → Int → Option (Int)
  | 0, _, _, _ => none
  | k + 1, x0, x5, x6 => if x6 < 8 then (if (Go.bits .and .u32 x5 1) = 1 then (gongref02_step.l0 k x0 (Go.bits .xor .u32 (x5 / 2) 3988292384) (wrap64 (x6 + 1))) else (gongref02_step.l0 k x0 (x5 / 2) (wrap64 (x6 + 1)))) else (some (Go.bits .xor .u32 (x0 / 256) x5))
def gongref02_step.f (k : Nat) (a0 : Int) (a1 : Int) : Option (Int) := gongref02_step.l0 k a0 (Go.bits .and .u32 (Go.bits .xor .u32 a0 ((a1) % 4294967296)) 255) 0
set_option maxHeartbeats 8000000 in
set_option maxRecDepth 100000 in
theorem gongref02_step.calls (k : Nat) (a0 : Int) (a1 : Int) (r : Int) (w : World) (h : gongref02_step.f k a0 a1 = some r) :
    Calls Tryd.prog 68 #[.int .u32 a0, .int .u8 a1] w fun e w' => e = .returned (.int .u32 r) ∧ Drawn0 w w' := by
  have H : (gongref02_step.l0 k a0 (Go.bits .and .u32 (Go.bits .xor .u32 a0 ((a1) % 4294967296)) 255) 0) = some r := h
  clear h
  have H' := Aside0.mk H
  clear H
  go_enter Tryd.func68, Tryd.ntmps68
  go_wp2
  go_loopg [5, 6] k (fun kq v5 v6 w' => ∃ (x5_1 : Int) (x6_1 : Int), v5 = .int .u32 x5_1 ∧ v6 = .int .i64 x6_1 ∧ Aside0 (gongref02_step.l0 kq a0 x5_1 x6_1 = some r) ∧ Aside0 (kq ≤ k) ∧ Drawn0 w w')
  case atStart => exact ⟨(Go.bits .and .u32 (Go.bits .xor .u32 a0 ((a1) % 4294967296)) 255), (0), (by first | rfl | (simp; done) | (simp [*]; done)), (by first | rfl | (simp; done) | (simp [*]; done)), H', ⟨Nat.le_refl _⟩, by repeat (first | exact Drawn0.refl _ | apply Drawn0.step)⟩
  case round =>
    clear H'
    try clear p2
    obtain ⟨x5_1, x6_1, rfl, rfl, HA, HK1, ⟨m1, rfl⟩⟩ := hrel
    cases gk with
    | zero => exact absurd HA.out (by simp [gongref02_step.l0])
    | succ k1 =>
      have H := HA.out
      clear HA
      simp only [gongref02_step.l0] at H
      by_cases c3 : x6_1 < 8
      · rw [if_pos c3] at H
        have c3b0 : decide (x6_1 < 8) = true := decide_eq_true c3
        clear c3
        by_cases c4 : (Go.bits .and .u32 x5_1 1) = 1
        · rw [if_pos c4] at H
          have c4b0 : ((Go.bits .and .u32 x5_1 1) == 1) = true := beq_iff_eq.mpr c4
          have c4b1 : ((Go.bits .and .u32 x5_1 1) != 1) = false := bne_eq_false_iff_eq.mpr c4
          clear c4
          have H' := Aside0.mk H
          clear H
          go_wp2
          go_roundg k1
          case measure => have := HK1.out; omega
          case rel => exact ⟨(Go.bits .xor .u32 (x5_1 / 2) 3988292384), (wrap64 (x6_1 + 1)), (by first | rfl | (simp; done) | (simp [*]; done)), (by first | rfl | (simp; done) | (simp [*]; done)), H', ⟨by have := HK1.out; omega⟩, by repeat (first | exact Drawn0.refl _ | apply Drawn0.step)⟩
        · rw [if_neg c4] at H
          have c4b0 : ((Go.bits .and .u32 x5_1 1) == 1) = false := beq_eq_false_iff_ne.mpr c4
          have c4b1 : ((Go.bits .and .u32 x5_1 1) != 1) = true := bne_iff_ne.mpr c4
          have H' := Aside0.mk H
          clear H
          go_wp2
          go_roundg k1
          case measure => have := HK1.out; omega
          case rel => exact ⟨(x5_1 / 2), (wrap64 (x6_1 + 1)), (by first | rfl | (simp; done) | (simp [*]; done)), (by first | rfl | (simp; done) | (simp [*]; done)), H', ⟨by have := HK1.out; omega⟩, by repeat (first | exact Drawn0.refl _ | apply Drawn0.step)⟩
      · rw [if_neg c3] at H
        have c3b0 : decide (x6_1 < 8) = false := decide_eq_false c3
        clear c3
        obtain rfl := Option.some.inj H
        go_wp2
        go_ret
        exact ⟨by first | rfl | (simp; done) | (simp [*]; done) | (simp [IntKind.wrap_u8, IntKind.wrap_i64, wrap64]; done) | (simp only [IntKind.wrap_u8]; rfl), by repeat (first | exact Drawn0.refl _ | apply Drawn0.step)⟩
end Go.Proofs.YtipenplplmdclaaDoor.Px
end
section
namespace Go.Proofs.YtipenplplmdclaaDoor.Px
open Go.RowKit Go.Proofs.YtipenplplmdclaaDoorW.PrintWords Go.Proofs.YtipenplplmdclaaDoorW.PrintLast Go.Proofs.YtipenplplmdclaaDoorW.PrintMore
attribute [local go_sem] max2_int min2_int max_two min_two max_three min_three max_four min_four
set_option linter.unusedVariables false
set_option linter.unusedSimpArgs false
def gongref02_Sum.l0 : Nat → ByteArray → Int → Int → Option (Int)
  | 0, _, _, _ => none
  | k + 1, x0, x3, x4 => if x4 < (x0.size : Int) then (if 0 ≤ x4 then ((gongref02_step.f k x3 (bt x0 x4)).bind fun t272 => (gongref02_Sum.l0 k x0 t272 (wrap64 (x4 + 1)))) else (none)) else (some (wrap64 (Go.bits .xor .u32 x3 4294967295)))
def gongref02_Sum.f (k : Nat) (a0 : ByteArray) : Option (Int) := gongref02_Sum.l0 k a0 4294967295 0
set_option maxHeartbeats 8000000 in
set_option maxRecDepth 100000 in
theorem gongref02_Sum.calls (k : Nat) (a0 : ByteArray) (r : Int) (w : World) (h : gongref02_Sum.f k a0 = some r) :
    Calls Tryd.prog 50 #[.string a0] w fun e w' => e = .returned (.int .i64 r) ∧ Drawn0 w w' := by
  have H : (gongref02_Sum.l0 k a0 4294967295 0) = some r := h
  clear h
  have H' := Aside0.mk H
  clear H
  go_enter Tryd.func50, Tryd.ntmps50
  go_wp2
  go_loopg [3, 4] k (fun kq v3 v4 w' => ∃ (x3_1 : Int) (x4_1 : Int), v3 = .int .u32 x3_1 ∧ v4 = .int .i64 x4_1 ∧ Aside0 (gongref02_Sum.l0 kq a0 x3_1 x4_1 = some r) ∧ Aside0 (kq ≤ k) ∧ Drawn0 w w')
  case atStart => exact ⟨(4294967295), (0), (by first | rfl | (simp; done) | (simp [*]; done)), (by first | rfl | (simp; done) | (simp [*]; done)), H', ⟨Nat.le_refl _⟩, by repeat (first | exact Drawn0.refl _ | apply Drawn0.step)⟩
  case round =>
    clear H'
    obtain ⟨x3_1, x4_1, rfl, rfl, HA, HK1, ⟨m1, rfl⟩⟩ := hrel
    cases gk with
    | zero => exact absurd HA.out (by simp [gongref02_Sum.l0])
    | succ k1 =>
      have H := HA.out
      clear HA
      simp only [gongref02_Sum.l0] at H
      by_cases c2 : x4_1 < (a0.size : Int)
      · rw [if_pos c2] at H
        have c2b0 : decide (x4_1 < (a0.size : Int)) = true := decide_eq_true c2
        clear c2
        by_cases c3 : 0 ≤ x4_1
        · rw [if_pos c3] at H
          have c3b0 : decide (0 ≤ x4_1) = true := decide_eq_true c3
          clear c3
          replace H := Option.bind_eq_some_iff.mp H
          obtain ⟨t272, A50, H⟩ := H
          replace H : (gongref02_Sum.l0 k1 a0 t272 (wrap64 (x4_1 + 1))) = some r := H
          have A5 := Aside0.mk A50
          clear A50
          have H' := Aside0.mk H
          clear H
          have p4 : 0 ≤ (x4_1 : Int) := of_decide_eq_true (by first | (with_reducible assumption) | assumption)
          have q4 : x4_1 < (a0.size : Int) := of_decide_eq_true (by first | (with_reducible assumption) | assumption)
          have hx4 := bt_at a0 x4_1
          replace p4 := eq_true p4
          replace q4 := eq_true q4
          go_wp2_with (first | ((with_reducible refine gate_callee (f := 68) rfl ?_); refine goesL_ (some 15) rfl rfl Tryd.func68 (by kernel_rfl) rfl #[.int .u32 x3_1, .int .u8 (bt a0 x4_1)] rfl (by (try simp only [List.map_toArray, List.map_cons, List.map_nil]); first | done | rfl | (simp only [List.length_drop, List.length_take]; rfl)) ?_; (with_reducible refine (gongref02_step.calls k1 x3_1 (bt a0 x4_1) t272 _ A5.out).mono ?_); rintro e w' ⟨rfl, ⟨nd, rfl⟩⟩; refine ⟨_, rfl, ?_⟩))
          go_roundg k1
          case measure => have := HK1.out; omega
          case rel => exact ⟨(t272), (wrap64 (x4_1 + 1)), (by first | rfl | (simp; done) | (simp [*]; done)), (by first | rfl | (simp; done) | (simp [*]; done)), H', ⟨by have := HK1.out; omega⟩, by repeat (first | exact Drawn0.refl _ | apply Drawn0.step)⟩
        · rw [if_neg c3] at H
          exact absurd H (by simp)
      · rw [if_neg c2] at H
        have c2b0 : decide (x4_1 < (a0.size : Int)) = false := decide_eq_false c2
        clear c2
        obtain rfl := Option.some.inj H
        go_wp2
        go_ret
        exact ⟨by first | rfl | (simp; done) | (simp [*]; done) | (simp [IntKind.wrap_u8, IntKind.wrap_i64, wrap64]; done) | (simp only [IntKind.wrap_u8]; rfl), by repeat (first | exact Drawn0.refl _ | apply Drawn0.step)⟩
def gongref02_Tag.f (k : Nat) (a0 : ByteArray) : Option (ByteArray) := (gongref02_Sum.f k a0).bind fun t273 => ((gongref01_Padded.f k t273 4).bind fun t274 => (if 3 < (t274.size : Int) then (if 2 < (t274.size : Int) then (if 1 < (t274.size : Int) then (if 0 < (t274.size : Int) then ((some (([bt t274 3, bt t274 2, bt t274 1, bt t274 0] : List Int) : List Int)).bind fun y275 => (if a0.size + (strOfNums y275).size ≤ 9223372036854775807 then (some (a0 ++ (strOfNums y275))) else (none))) else (none)) else (none)) else (none)) else (none)))
def gongref02_Tag.T2 : Bool × List (List Nat × List Nat) := (true, [([], []), ([], []), ([1], [1]), ([], []), ([3], [3]), ([], []), ([5], [5]), ([], []), ([7], [7]), ([2, 4, 6, 8], [2, 4, 6, 8]), ([9], [9]), ([0, 10], [0, 10]), ([11, 0, 1, 2, 3, 4, 5, 6, 7, 8, 9, 10, 11], [11])])
def gongref02_Tag.B2 : List Nat := [0, 0, 2, 0, 8, 0, 32, 0, 128, 510, 1022, 2047, 4095]
theorem gongref02_Tag.tab2 : rtab .any (opsOf Tryd.f28 2) = gongref02_Tag.T2 := by kernel_rfl
theorem gongref02_Tag.bits2 : waitsOk gongref02_Tag.T2.2 gongref02_Tag.B2 = true := by kernel_rfl
set_option maxHeartbeats 8000000 in
set_option maxRecDepth 100000 in
theorem gongref02_Tag.calls (k : Nat) (a0 : ByteArray) (r : ByteArray) (w : World) (h : gongref02_Tag.f k a0 = some r) :
    Calls Tryd.prog 28 #[.string a0] w fun e w' => e = .returned (.string r) ∧ Below w.heap.size w w' := by
  have HB := Aside0.mk (Below.refl w.heap.size w)
  have H : ((gongref02_Sum.f k a0).bind fun t273 => ((gongref01_Padded.f k t273 4).bind fun t274 => (if 3 < (t274.size : Int) then (if 2 < (t274.size : Int) then (if 1 < (t274.size : Int) then (if 0 < (t274.size : Int) then ((some (([bt t274 3, bt t274 2, bt t274 1, bt t274 0] : List Int) : List Int)).bind fun y275 => (if a0.size + (strOfNums y275).size ≤ 9223372036854775807 then (some (a0 ++ (strOfNums y275))) else (none))) else (none)) else (none)) else (none)) else (none)))) = some r := h
  clear h
  replace H := Option.bind_eq_some_iff.mp H
  obtain ⟨t273, A20, H⟩ := H
  replace H : ((gongref01_Padded.f k t273 4).bind fun t274 => (if 3 < (t274.size : Int) then (if 2 < (t274.size : Int) then (if 1 < (t274.size : Int) then (if 0 < (t274.size : Int) then ((some (([bt t274 3, bt t274 2, bt t274 1, bt t274 0] : List Int) : List Int)).bind fun y275 => (if a0.size + (strOfNums y275).size ≤ 9223372036854775807 then (some (a0 ++ (strOfNums y275))) else (none))) else (none)) else (none)) else (none)) else (none))) = some r := H
  have A2 := Aside0.mk A20
  clear A20
  replace H := Option.bind_eq_some_iff.mp H
  obtain ⟨t274, A30, H⟩ := H
  replace H : (if 3 < (t274.size : Int) then (if 2 < (t274.size : Int) then (if 1 < (t274.size : Int) then (if 0 < (t274.size : Int) then ((some (([bt t274 3, bt t274 2, bt t274 1, bt t274 0] : List Int) : List Int)).bind fun y275 => (if a0.size + (strOfNums y275).size ≤ 9223372036854775807 then (some (a0 ++ (strOfNums y275))) else (none))) else (none)) else (none)) else (none)) else (none)) = some r := H
  have A3 := Aside0.mk A30
  clear A30
  by_cases c4 : 3 < (t274.size : Int)
  · rw [if_pos c4] at H
    have c4b0 : decide (3 < (t274.size : Int)) = true := decide_eq_true c4
    have c4b1 : decide (3 < t274.size) = true := decide_eq_true (by omega)
    clear c4
    by_cases c6 : 2 < (t274.size : Int)
    · rw [if_pos c6] at H
      have c6b0 : decide (2 < (t274.size : Int)) = true := decide_eq_true c6
      have c6b1 : decide (2 < t274.size) = true := decide_eq_true (by omega)
      clear c6
      by_cases c8 : 1 < (t274.size : Int)
      · rw [if_pos c8] at H
        have c8b0 : decide (1 < (t274.size : Int)) = true := decide_eq_true c8
        have c8b1 : decide (1 < t274.size) = true := decide_eq_true (by omega)
        clear c8
        by_cases c10 : 0 < (t274.size : Int)
        · rw [if_pos c10] at H
          have c10b0 : decide (0 < (t274.size : Int)) = true := decide_eq_true c10
          have c10b1 : decide (0 < t274.size) = true := decide_eq_true (by omega)
          clear c10
          obtain ⟨y275, hy275⟩ : ∃ y_ : List Int, y_ = (([bt t274 3, bt t274 2, bt t274 1, bt t274 0] : List Int)) := ⟨_, rfl⟩
          replace H : (if a0.size + (strOfNums y275).size ≤ 9223372036854775807 then (some (a0 ++ (strOfNums y275))) else (none)) = some r := by first | (rw [hy275]; with_reducible exact H) | (have H2_ := (Option.bind_some _ _).symm.trans H; rw [hy275]; with_reducible exact H2_) | (have H2_ := (Option.bind_some _ _).symm.trans H; with_reducible exact H2_) | with_reducible exact H | (rw [hy275]; exact H) | exact H
          have Ny275 := Aside0.mk hy275
          clear hy275
          by_cases c12 : a0.size + (strOfNums y275).size ≤ 9223372036854775807
          · rw [if_pos c12] at H
            have c12b0 := eq_true c12
            have c12b1 : decide (a0.size + (strOfNums y275).size ≤ 9223372036854775807) = true := decide_eq_true c12
            try have c12b2 : (9223372036854775807 < a0.size + (strOfNums y275).size) = False := eq_false (Nat.not_lt.2 c12)
            obtain rfl := Option.some.inj H
            go_enter Tryd.func28, Tryd.ntmps28
            try go_wp2_with (first | ((with_reducible refine gate_callee (f := 50) rfl ?_); refine goesL_ (some 5) rfl rfl Tryd.func50 (by kernel_rfl) rfl #[.string a0] rfl (by (try simp only [List.map_toArray, List.map_cons, List.map_nil]); first | done | rfl | (simp only [List.length_drop, List.length_take]; rfl)) ?_; (with_reducible refine (gongref02_Sum.calls k a0 t273 _ A2.out).mono ?_); rintro e w' ⟨rfl, ⟨nd, rfl⟩⟩; refine ⟨_, rfl, ?_⟩) | ((with_reducible refine gate_callee (f := 49) rfl ?_); refine goesL_ (some 6) rfl rfl Tryd.func49 (by kernel_rfl) rfl #[.int .i64 t273, .int .i64 4] rfl (by (try simp only [List.map_toArray, List.map_cons, List.map_nil]); first | done | rfl | (simp only [List.length_drop, List.length_take]; rfl)) ?_; (with_reducible refine (gongref01_Padded.calls k t273 4 t274 _ A3.out).mono ?_); rintro e w13 ⟨rfl, hb⟩; refine ⟨_, rfl, ?_⟩; have n0_ := Aside0.mk (below_step (by repeat (first | (with_reducible first | exact HB.out | apply below_alloc | apply pw_below_drewN | apply below_drew1) | exact HB.out)) hb); clear HB; have HB := n0_; clear n0_; (try clear hb); (try clear hb2); (try clear hk); (try clear hi)))
            have n0_ := Aside0.mk (below_drew1 HB.out)
            clear HB
            have HB := n0_
            clear n0_
            have p5 : 0 ≤ (3 : Int) := (by omega)
            have q5 : 3 < t274.size := (by have : (3 : Int) < (t274.size : Int) := of_decide_eq_true (by first | (with_reducible assumption) | assumption); omega)
            have hx5 : ∀ h : 3 < t274.size, ((t274[3]'h).toNat : Int) = bt t274 3 := bt_at t274 3
            clear p5
            have qi5 : (3 < (t274.size : Int)) = True := eq_true (of_decide_eq_true (by first | (with_reducible assumption) | assumption))
            replace q5 := eq_true q5
            have p7 : 0 ≤ (2 : Int) := (by omega)
            have q7 : 2 < t274.size := (by have : (2 : Int) < (t274.size : Int) := of_decide_eq_true (by first | (with_reducible assumption) | assumption); omega)
            have hx7 : ∀ h : 2 < t274.size, ((t274[2]'h).toNat : Int) = bt t274 2 := bt_at t274 2
            clear p7
            have qi7 : (2 < (t274.size : Int)) = True := eq_true (of_decide_eq_true (by first | (with_reducible assumption) | assumption))
            replace q7 := eq_true q7
            have p9 : 0 ≤ (1 : Int) := (by omega)
            have q9 : 1 < t274.size := (by have : (1 : Int) < (t274.size : Int) := of_decide_eq_true (by first | (with_reducible assumption) | assumption); omega)
            have hx9 : ∀ h : 1 < t274.size, ((t274[1]'h).toNat : Int) = bt t274 1 := bt_at t274 1
            clear p9
            have qi9 : (1 < (t274.size : Int)) = True := eq_true (of_decide_eq_true (by first | (with_reducible assumption) | assumption))
            replace q9 := eq_true q9
            have p11 : 0 ≤ (0 : Int) := (by omega)
            have q11 : 0 < t274.size := (by have : (0 : Int) < (t274.size : Int) := of_decide_eq_true (by first | (with_reducible assumption) | assumption); omega)
            have hx11 : ∀ h : 0 < t274.size, ((t274[0]'h).toNat : Int) = bt t274 0 := bt_at t274 0
            clear p11
            have qi11 : (0 < (t274.size : Int)) = True := eq_true (of_decide_eq_true (by first | (with_reducible assumption) | assumption))
            replace q11 := eq_true q11
            refine start_ (n := 13) (S := fun w' => True) (ds := []) #[false, false, false, false, false, false, false, false, false, false, false, false, false] (by kernel_rfl) rfl rfl trivial (fun hHeld => ?_); refine with_tabW gongref02_Tag.tab2 gongref02_Tag.bits2 (fun HT_ HW_ => ?_)
            generalize w13.drew = w14 at HB hHeld ⊢
            refine pure_ (i := 0) (N := some 7) (v := ?_) (a' := ?_) #[true, false, false, false, false, false, false, false, false, false, false, false, false] rfl rfl (any_of HT_.out (by kernel_rfl)) (fun _ _ _ h => h) (Or.inl ⟨by rfl, ?_⟩) ?_ ?_
            rotate_left
            · intro w'
              go_simp
              with_reducible rfl
            rotate_left
            · simp only [Act.put, List.setIfInBounds_toArray, List.set_cons_zero, List.set_cons_succ, i64_w, i32_w]
              rfl
            refine pure_ (i := 1) (N := some 8) (v := ?_) (a' := ?_) #[true, true, false, false, false, false, false, false, false, false, false, false, false] rfl rfl (any_of HT_.out (by kernel_rfl)) (fun _ _ _ h => h) (Or.inl ⟨by rfl, ?_⟩) ?_ ?_
            rotate_left
            · intro w'
              go_simp
              with_reducible rfl
            rotate_left
            · simp only [Act.put, List.setIfInBounds_toArray, List.set_cons_zero, List.set_cons_succ, i64_w, i32_w]
              rfl
            refine pure_ (i := 3) (N := some 10) (v := ?_) (a' := ?_) #[true, true, false, true, false, false, false, false, false, false, false, false, false] rfl rfl (any_of HT_.out (by kernel_rfl)) (fun _ _ _ h => h) (Or.inl ⟨by rfl, ?_⟩) ?_ ?_
            rotate_left
            · intro w'
              go_simp
              with_reducible rfl
            rotate_left
            · simp only [Act.put, List.setIfInBounds_toArray, List.set_cons_zero, List.set_cons_succ, i64_w, i32_w]
              rfl
            refine pure_ (i := 5) (N := some 12) (v := ?_) (a' := ?_) #[true, true, false, true, false, true, false, false, false, false, false, false, false] rfl rfl (any_of HT_.out (by kernel_rfl)) (fun _ _ _ h => h) (Or.inl ⟨by rfl, ?_⟩) ?_ ?_
            rotate_left
            · intro w'
              go_simp
              with_reducible rfl
            rotate_left
            · simp only [Act.put, List.setIfInBounds_toArray, List.set_cons_zero, List.set_cons_succ, i64_w, i32_w]
              rfl
            refine pure_ (i := 7) (N := some 14) (v := ?_) (a' := ?_) #[true, true, false, true, false, true, false, true, false, false, false, false, false] rfl rfl (any_of HT_.out (by kernel_rfl)) (fun _ _ _ h => h) (Or.inl ⟨by rfl, ?_⟩) ?_ ?_
            rotate_left
            · intro w'
              go_simp
              with_reducible rfl
            rotate_left
            · simp only [Act.put, List.setIfInBounds_toArray, List.set_cons_zero, List.set_cons_succ, i64_w, i32_w]
              rfl
            refine take_ (i := 2) (N := some 9) (v := ?_) (a' := ?_) #[true, true, true, true, false, true, false, true, false, false, false, false, false] rfl rfl (take_ofW HT_.out HW_.out (by kernel_rfl)) (fun _ _ _ h => h) (Or.inl ⟨by rfl, ?_⟩) hHeld ?_ ?_
            rotate_left
            · intro w' _
              go_simp
              with_reducible rfl
            rotate_left
            · simp only [Act.put, List.setIfInBounds_toArray, List.set_cons_zero, List.set_cons_succ, i64_w, i32_w]
              rfl
            refine take_ (i := 4) (N := some 11) (v := ?_) (a' := ?_) #[true, true, true, true, true, true, false, true, false, false, false, false, false] rfl rfl (take_ofW HT_.out HW_.out (by kernel_rfl)) (fun _ _ _ h => h) (Or.inl ⟨by rfl, ?_⟩) hHeld ?_ ?_
            rotate_left
            · intro w' _
              go_simp
              with_reducible rfl
            rotate_left
            · simp only [Act.put, List.setIfInBounds_toArray, List.set_cons_zero, List.set_cons_succ, i64_w, i32_w]
              rfl
            refine take_ (i := 6) (N := some 13) (v := ?_) (a' := ?_) #[true, true, true, true, true, true, true, true, false, false, false, false, false] rfl rfl (take_ofW HT_.out HW_.out (by kernel_rfl)) (fun _ _ _ h => h) (Or.inl ⟨by rfl, ?_⟩) hHeld ?_ ?_
            rotate_left
            · intro w' _
              go_simp
              with_reducible rfl
            rotate_left
            · simp only [Act.put, List.setIfInBounds_toArray, List.set_cons_zero, List.set_cons_succ, i64_w, i32_w]
              rfl
            refine take_ (i := 8) (N := some 15) (v := ?_) (a' := ?_) #[true, true, true, true, true, true, true, true, true, false, false, false, false] rfl rfl (take_ofW HT_.out HW_.out (by kernel_rfl)) (fun _ _ _ h => h) (Or.inl ⟨by rfl, ?_⟩) hHeld ?_ ?_
            rotate_left
            · intro w' _
              go_simp
              with_reducible rfl
            rotate_left
            · simp only [Act.put, List.setIfInBounds_toArray, List.set_cons_zero, List.set_cons_succ, i64_w, i32_w]
              rfl
            refine one_ (i := 9) (N := some 16) #[true, true, true, true, true, true, true, true, true, true, false, false, false] rfl rfl (one_of HT_.out (by kernel_rfl)) (by decide) (fun K hK => ?_)
            refine Kd.R_lit_step (Kd.int .u8) _ 5 ?hg (N := 16) ?hd (xs := ([bt t274 3, bt t274 2, bt t274 1, bt t274 0] : List Int)) (inner := [.int .u8 (bt t274 3), .int .u8 (bt t274 2), .int .u8 (bt t274 1), .int .u8 (bt t274 0)]) (ok := fun _ => True) (okp := fun _ => True) ?hr ?hp (fun _ hk => hk) trivial (Below.refl _ _) (Nat.le_refl _) (by simp) ?_; (case hd => rfl); (case hg => rfl); (case hr => first | (go_simp; done) | (go_simp; rfl)); (case hp => exact (Reps.one (show Kd.M (Kd.int .u8) _ _ _ (bt t274 3) [.int .u8 (bt t274 3)] from rfl) (Reps.one (show Kd.M (Kd.int .u8) _ _ _ (bt t274 2) [.int .u8 (bt t274 2)] from rfl) (Reps.one (show Kd.M (Kd.int .u8) _ _ _ (bt t274 1) [.int .u8 (bt t274 1)] from rfl) (Reps.one (show Kd.M (Kd.int .u8) _ _ _ (bt t274 0) [.int .u8 (bt t274 0)] from rfl) (Reps.none _ _))))))
            intro v276 w15 ho16 hb hg_ hnew_
            clear hg_ hnew_
            (first | rw [← Ny275.out] at ho16 | (simp only [Int.reduceToNat] at ho16; rw [← Ny275.out] at ho16))
            have n0_ := Aside0.mk (Kd.R_lower ho16 (below_size (by repeat (first | (with_reducible first | exact HB.out | apply below_alloc | apply pw_below_drewN | apply below_drew1) | exact HB.out))))
            have n1_ := Aside0.mk (below_step (by repeat (first | (with_reducible first | exact HB.out | apply below_alloc | apply pw_below_drewN | apply below_drew1) | exact HB.out)) hb)
            clear HB
            have HO277 := n0_
            have HB := n1_
            clear n0_ n1_
            clear hb ho16
            refine hK.out _ _ trivial (fun hHeld => ?_)
            clear hK K
            refine norm_ (a' := ?_) ?_ ?_
            rotate_left
            · show Act.put _ (some 16) _ = _
              simp only [Act.put, List.setIfInBounds_toArray, List.set_cons_zero, List.set_cons_succ, i64_w, i32_w]
              rfl
            refine one_ (i := 10) (N := some 17) #[true, true, true, true, true, true, true, true, true, true, true, false, false] rfl rfl (one_of HT_.out (by kernel_rfl)) (by decide) (fun K hK => ?_)
            have hcv17 := own_string (P := Tryd.prog) Tryd.underlying44 Tryd.underlying5 Tryd.underlying9 (Kd.own_of_R HO277.out)
            refine value_ (w1 := ?_) (v := ?_) (by rfl) rfl ?_ ?_
            rotate_left 2
            · go_simp
              constructor
              · rfl
              · rfl
            clear hcv17
            refine hK.out _ _ trivial (fun hHeld => ?_)
            clear hK K
            refine norm_ (a' := ?_) ?_ ?_
            rotate_left
            · show Act.put _ (some 17) _ = _
              simp only [Act.put, List.setIfInBounds_toArray, List.set_cons_zero, List.set_cons_succ, i64_w, i32_w]
              rfl
            refine pure_ (i := 11) (N := some 18) (v := ?_) (a' := ?_) #[true, true, true, true, true, true, true, true, true, true, true, true, false] rfl rfl (any_of HT_.out (by kernel_rfl)) (fun _ _ _ h => h) (Or.inl ⟨by rfl, ?_⟩) ?_ ?_
            rotate_left
            · intro w'
              go_simp
              with_reducible rfl
            rotate_left
            · simp only [Act.put, List.setIfInBounds_toArray, List.set_cons_zero, List.set_cons_succ, i64_w, i32_w]
              rfl
            refine pure_ (i := 12) (N := some 2) (v := ?_) (a' := ?_) #[true, true, true, true, true, true, true, true, true, true, true, true, true] rfl rfl (any_of HT_.out (by kernel_rfl)) (fun _ _ _ h => h) (Or.inl ⟨by rfl, ?_⟩) ?_ ?_
            rotate_left
            · intro w'
              go_simp
              with_reducible rfl
            rotate_left
            · simp only [Act.put, List.setIfInBounds_toArray, List.set_cons_zero, List.set_cons_succ, i64_w, i32_w]
              rfl
            refine done_ (done_of HT_.out (by kernel_rfl)) ?_
            try go_wp2
            go_ret
            exact ⟨by first | rfl | (simp [errW_none, errW_some] <;> rfl) | (simp [*, errW_none, errW_some] <;> rfl), by repeat (first | (with_reducible first | exact HB.out | apply below_alloc | apply pw_below_drewN | apply below_drew1) | exact HB.out)⟩
          · rw [if_neg c12] at H
            exact absurd H (by simp)
        · rw [if_neg c10] at H
          exact absurd H (by simp)
      · rw [if_neg c8] at H
        exact absurd H (by simp)
    · rw [if_neg c6] at H
      exact absurd H (by simp)
  · rw [if_neg c4] at H
    exact absurd H (by simp)
end Go.Proofs.YtipenplplmdclaaDoor.Px
end
section
namespace Go.Proofs.YtipenplplmdclaaDoor.Px
open Go.RowKit Go.Proofs.YtipenplplmdclaaDoorW.PrintWords Go.Proofs.YtipenplplmdclaaDoorW.PrintLast Go.Proofs.YtipenplplmdclaaDoorW.PrintMore
attribute [local go_sem] max2_int min2_int max_two min_two max_three min_three max_four min_four
set_option linter.unusedVariables false
set_option linter.unusedSimpArgs false
def gongref23_Encode.f (k : Nat) (a0_0 : Int) (a0_1 : Int) (a0_2 : Int) (a0_3 : ByteArray) (a0_4 : ByteArray) (a0_5 : ByteArray) (a0_6 : Int) (a0_7 : ByteArray) (a0_8 : Int) (a0_9 : Int) (a0_10 : Int) (a0_11 : Bool) (a0_12 : ByteArray) : Option (ByteArray × Int) := (gongref23_Check.f k a0_0 a0_1 a0_2 a0_3 a0_4 a0_5 a0_6 a0_7 a0_8 a0_9 a0_10 a0_11 a0_12).bind fun t279 => (if t279 = 0 then ((gongref01_Grouped.f k a0_0).bind fun t280 => (if 1 + t280.size ≤ 9223372036854775807 then ((gongref23_Put.f k a0_0 a0_1 a0_2 a0_3 a0_4 a0_5 a0_6 a0_7 a0_8 a0_9 a0_10 a0_11 a0_12).bind fun t281 => (if ((⟨#[71]⟩ : ByteArray) ++ t280).size + t281.size ≤ 9223372036854775807 then ((gongref02_Tag.f k (((⟨#[71]⟩ : ByteArray) ++ t280) ++ t281)).bind fun t282 => (some (t282, 0))) else (none))) else (none))) else (some ((⟨#[]⟩ : ByteArray), t279)))
def gongref23_Encode.T4 : Bool × List (List Nat × List Nat) := (true, [([], []), ([0], [0]), ([1], [1]), ([2], [2]), ([], []), ([4, 2], [4]), ([3, 5], [3, 5]), ([6, 5], [6]), ([7, 7, 0, 1, 2, 3, 4, 5, 6, 7], [7]), ([8, 0, 1, 2, 3, 4, 5, 6, 7, 8], [])])
def gongref23_Encode.B4 : List Nat := [0, 1, 3, 7, 0, 23, 63, 127, 255, 511]
theorem gongref23_Encode.tab4 : rtab .any (opsOf Tryd.f12 4) = gongref23_Encode.T4 := by kernel_rfl
theorem gongref23_Encode.bits4 : waitsOk gongref23_Encode.T4.2 gongref23_Encode.B4 = true := by kernel_rfl
set_option maxHeartbeats 8000000 in
set_option maxRecDepth 100000 in
theorem gongref23_Encode.calls (k : Nat) (a0_0 : Int) (a0_1 : Int) (a0_2 : Int) (a0_3 : ByteArray) (a0_4 : ByteArray) (a0_5 : ByteArray) (a0_6 : Int) (a0_7 : ByteArray) (a0_8 : Int) (a0_9 : Int) (a0_10 : Int) (a0_11 : Bool) (a0_12 : ByteArray) (r1 : ByteArray) (r2 : Int) (w : World) (h : gongref23_Encode.f k a0_0 a0_1 a0_2 a0_3 a0_4 a0_5 a0_6 a0_7 a0_8 a0_9 a0_10 a0_11 a0_12 = some (r1, r2)) :
    Calls Tryd.prog 12 #[.agg #[.int .i64 a0_0, .int .i64 a0_1, .int .i64 a0_2, .string a0_3, .string a0_4, .string a0_5, .int .i64 a0_6, .string a0_7, .int .i64 a0_8, .int .i64 a0_9, .int .i64 a0_10, .bool a0_11, .string a0_12]] w fun e w' => e = .returned (.tuple #[.string r1, .int .i64 r2]) ∧ Below w.heap.size w w' := by
  have hu27 := Tryd.underlying27
  have HB := Aside0.mk (Below.refl w.heap.size w)
  have H : ((gongref23_Check.f k a0_0 a0_1 a0_2 a0_3 a0_4 a0_5 a0_6 a0_7 a0_8 a0_9 a0_10 a0_11 a0_12).bind fun t279 => (if t279 = 0 then ((gongref01_Grouped.f k a0_0).bind fun t280 => (if 1 + t280.size ≤ 9223372036854775807 then ((gongref23_Put.f k a0_0 a0_1 a0_2 a0_3 a0_4 a0_5 a0_6 a0_7 a0_8 a0_9 a0_10 a0_11 a0_12).bind fun t281 => (if ((⟨#[71]⟩ : ByteArray) ++ t280).size + t281.size ≤ 9223372036854775807 then ((gongref02_Tag.f k (((⟨#[71]⟩ : ByteArray) ++ t280) ++ t281)).bind fun t282 => (some (t282, 0))) else (none))) else (none))) else (some ((⟨#[]⟩ : ByteArray), t279)))) = some (r1, r2) := h
  clear h
  replace H := Option.bind_eq_some_iff.mp H
  obtain ⟨t279, A20, H⟩ := H
  replace H : (if t279 = 0 then ((gongref01_Grouped.f k a0_0).bind fun t280 => (if 1 + t280.size ≤ 9223372036854775807 then ((gongref23_Put.f k a0_0 a0_1 a0_2 a0_3 a0_4 a0_5 a0_6 a0_7 a0_8 a0_9 a0_10 a0_11 a0_12).bind fun t281 => (if ((⟨#[71]⟩ : ByteArray) ++ t280).size + t281.size ≤ 9223372036854775807 then ((gongref02_Tag.f k (((⟨#[71]⟩ : ByteArray) ++ t280) ++ t281)).bind fun t282 => (some (t282, 0))) else (none))) else (none))) else (some ((⟨#[]⟩ : ByteArray), t279))) = some (r1, r2) := H
  have A2 := Aside0.mk A20
  clear A20
  by_cases c3 : t279 = 0
  · rw [if_pos c3] at H
    have c3b0 : (t279 == 0) = true := beq_iff_eq.mpr c3
    have c3b1 : (t279 != 0) = false := bne_eq_false_iff_eq.mpr c3
    clear c3
    replace H := Option.bind_eq_some_iff.mp H
    obtain ⟨t280, A40, H⟩ := H
    replace H : (if 1 + t280.size ≤ 9223372036854775807 then ((gongref23_Put.f k a0_0 a0_1 a0_2 a0_3 a0_4 a0_5 a0_6 a0_7 a0_8 a0_9 a0_10 a0_11 a0_12).bind fun t281 => (if ((⟨#[71]⟩ : ByteArray) ++ t280).size + t281.size ≤ 9223372036854775807 then ((gongref02_Tag.f k (((⟨#[71]⟩ : ByteArray) ++ t280) ++ t281)).bind fun t282 => (some (t282, 0))) else (none))) else (none)) = some (r1, r2) := H
    have A4 := Aside0.mk A40
    clear A40
    by_cases c5 : 1 + t280.size ≤ 9223372036854775807
    · rw [if_pos c5] at H
      have c5b0 := eq_true c5
      have c5b1 : decide (1 + t280.size ≤ 9223372036854775807) = true := decide_eq_true c5
      try have c5b2 : (9223372036854775807 < 1 + t280.size) = False := eq_false (Nat.not_lt.2 c5)
      replace H := Option.bind_eq_some_iff.mp H
      obtain ⟨t281, A60, H⟩ := H
      replace H : (if ((⟨#[71]⟩ : ByteArray) ++ t280).size + t281.size ≤ 9223372036854775807 then ((gongref02_Tag.f k (((⟨#[71]⟩ : ByteArray) ++ t280) ++ t281)).bind fun t282 => (some (t282, 0))) else (none)) = some (r1, r2) := H
      have A6 := Aside0.mk A60
      clear A60
      by_cases c7 : ((⟨#[71]⟩ : ByteArray) ++ t280).size + t281.size ≤ 9223372036854775807
      · rw [if_pos c7] at H
        have c7b0 := eq_true c7
        have c7b1 : decide (((⟨#[71]⟩ : ByteArray) ++ t280).size + t281.size ≤ 9223372036854775807) = true := decide_eq_true c7
        try have c7b2 : (9223372036854775807 < ((⟨#[71]⟩ : ByteArray) ++ t280).size + t281.size) = False := eq_false (Nat.not_lt.2 c7)
        try have c7s2 : (9223372036854775807 < 1 + (t280).size + t281.size) = False := eq_false (by have z_ := c7; simp only [ByteArray.size_append] at z_; have y0_ : (⟨#[71]⟩ : ByteArray).size = 1 := rfl; omega)
        replace H := Option.bind_eq_some_iff.mp H
        obtain ⟨t282, A80, H⟩ := H
        replace H : (some (t282, 0)) = some (r1, r2) := H
        have A8 := Aside0.mk A80
        clear A80
        simp only [Option.some.injEq, Prod.mk.injEq] at H
        obtain ⟨rfl, rfl⟩ := H
        go_enter Tryd.func12, Tryd.ntmps12
        try go_wp2_with (first | ((with_reducible refine gate_dst (N := 1) rfl ?_); refine box_event ?hg (N := 1) ?hd (cs := #[.int .i64 a0_0, .int .i64 a0_1, .int .i64 a0_2, .string a0_3, .string a0_4, .string a0_5, .int .i64 a0_6, .string a0_7, .int .i64 a0_8, .int .i64 a0_9, .int .i64 a0_10, .bool a0_11, .string a0_12]) (t := 27) ?hr ?_; (case hd => rfl); (case hg => rfl); (case hr => first | (go_simp; done) | (go_simp; rfl)); intro gb278 hg w9 hbox hb; have n0_ := Aside0.mk (below_step (by repeat (first | (with_reducible first | exact HB.out | apply below_alloc | apply pw_below_drewN | apply below_drew1) | exact HB.out)) hb); have n1_ := Aside0.mk (hbox); have n2_ := Aside0.mk ((by rw [hg]; exact (below_size (by repeat (first | (with_reducible first | exact HB.out | apply below_alloc | apply pw_below_drewN | apply below_drew1) | exact HB.out))) : w.heap.size ≤ gb278)); have n3_ := Aside0.mk ((by rw [hg]; exact (below_size (by repeat (first | (with_reducible first | exact HB.out | apply below_alloc | apply pw_below_drewN | apply below_drew1) | exact HB.out))) : w.heap.size ≤ gb278)); clear HB; have HB := n0_; have BK278 := n1_; have GW278 := n2_; have GE278 := n3_; clear n0_ n1_ n2_ n3_; clear hb hbox hg; obtain ⟨hcz10_0, hcz10_1, hcz10_2, hcz10_3, hcz10_4, hcz10_5, hcz10_6, hcz10_7, hcz10_8, hcz10_9, hcz10_10, hcz10_11, hcz10_12⟩ := cell13 BK278.out; obtain ⟨hfz10_0, hfz10_1, hfz10_2, hfz10_3, hfz10_4, hfz10_5, hfz10_6, hfz10_7, hfz10_8, hfz10_9, hfz10_10, hfz10_11, hfz10_12⟩ := froz13 BK278.out) | ((with_reducible refine gate_callee (f := 16) rfl ?_); refine goesL_ (some 6) rfl rfl Tryd.func16 (by kernel_rfl) rfl #[.agg #[.int .i64 a0_0, .int .i64 a0_1, .int .i64 a0_2, .string a0_3, .string a0_4, .string a0_5, .int .i64 a0_6, .string a0_7, .int .i64 a0_8, .int .i64 a0_9, .int .i64 a0_10, .bool a0_11, .string a0_12]] rfl (by (try simp only [List.map_toArray, List.map_cons, List.map_nil]); first | done | rfl | (simp only [List.length_drop, List.length_take]; rfl)) ?_; (with_reducible refine (gongref23_Check.calls k a0_0 a0_1 a0_2 a0_3 a0_4 a0_5 a0_6 a0_7 a0_8 a0_9 a0_10 a0_11 a0_12 t279 _ A2.out).mono ?_); rintro e w11 ⟨rfl, hb⟩; refine ⟨_, rfl, ?_⟩; have n0_ := Aside0.mk (blk_below (g := gb278) (o := .cells #[.int .i64 a0_0, .int .i64 a0_1, .int .i64 a0_2, .string a0_3, .string a0_4, .string a0_5, .int .i64 a0_6, .string a0_7, .int .i64 a0_8, .int .i64 a0_9, .int .i64 a0_10, .bool a0_11, .string a0_12] 27 (0, 0)) (by (with_reducible repeat (first | refine blk_drewN ?_ _ | refine blk_drew ?_ | refine blk_alloc ?_ _)); exact BK278.out) hb); have n1_ := Aside0.mk (below_step (by repeat (first | (with_reducible first | exact HB.out | apply below_alloc | apply pw_below_drewN | apply below_drew1 | refine below_set ?_ GE278.out) | exact HB.out)) hb); clear BK278; clear HB; have BK278 := n0_; have HB := n1_; clear n0_ n1_; (try clear hb); (try clear hb2); (try clear hk); (try clear hi)))
        have n0_ := Aside0.mk (blk_drew BK278.out)
        have n1_ := Aside0.mk (below_drew1 HB.out)
        clear BK278
        clear HB
        have BK278 := n0_
        have HB := n1_
        clear n0_ n1_
        refine start_ (n := 10) (S := fun w' => w'.cell? ⟨gb278, 0, none⟩ = some (.int .i64 a0_0) ∧ w'.cell? ⟨gb278, 1, none⟩ = some (.int .i64 a0_1) ∧ w'.cell? ⟨gb278, 2, none⟩ = some (.int .i64 a0_2) ∧ w'.cell? ⟨gb278, 3, none⟩ = some (.string a0_3) ∧ w'.cell? ⟨gb278, 4, none⟩ = some (.string a0_4) ∧ w'.cell? ⟨gb278, 5, none⟩ = some (.string a0_5) ∧ w'.cell? ⟨gb278, 6, none⟩ = some (.int .i64 a0_6) ∧ w'.cell? ⟨gb278, 7, none⟩ = some (.string a0_7) ∧ w'.cell? ⟨gb278, 8, none⟩ = some (.int .i64 a0_8) ∧ w'.cell? ⟨gb278, 9, none⟩ = some (.int .i64 a0_9) ∧ w'.cell? ⟨gb278, 10, none⟩ = some (.int .i64 a0_10) ∧ w'.cell? ⟨gb278, 11, none⟩ = some (.bool a0_11) ∧ w'.cell? ⟨gb278, 12, none⟩ = some (.string a0_12)) (ds := []) #[false, false, false, false, false, false, false, false, false, false] (by kernel_rfl) rfl rfl ⟨(blk_cell BK278.out 0).trans rfl, (blk_cell BK278.out 1).trans rfl, (blk_cell BK278.out 2).trans rfl, (blk_cell BK278.out 3).trans rfl, (blk_cell BK278.out 4).trans rfl, (blk_cell BK278.out 5).trans rfl, (blk_cell BK278.out 6).trans rfl, (blk_cell BK278.out 7).trans rfl, (blk_cell BK278.out 8).trans rfl, (blk_cell BK278.out 9).trans rfl, (blk_cell BK278.out 10).trans rfl, (blk_cell BK278.out 11).trans rfl, (blk_cell BK278.out 12).trans rfl⟩ (fun hHeld => ?_); refine with_tabW gongref23_Encode.tab4 gongref23_Encode.bits4 (fun HT_ HW_ => ?_)
        generalize w11.drew = w12 at BK278 HB hHeld ⊢
        refine pure_ (i := 0) (N := some 10) (v := ?_) (a' := ?_) #[true, false, false, false, false, false, false, false, false, false] rfl rfl (any_of HT_.out (by kernel_rfl)) (fun _ _ _ h => h) (Or.inl ⟨by rfl, ?_⟩) ?_ ?_
        rotate_left
        · intro w'
          go_simp
          with_reducible rfl
        rotate_left
        · simp only [Act.put, List.setIfInBounds_toArray, List.set_cons_zero, List.set_cons_succ, i64_w, i32_w]
          rfl
        refine take_ (i := 1) (N := some 11) (v := ?_) (a' := ?_) #[true, true, false, false, false, false, false, false, false, false] rfl rfl (take_ofW HT_.out HW_.out (by kernel_rfl)) (fun _ _ _ h => h) (Or.inl ⟨by rfl, ?_⟩) hHeld ?_ ?_
        rotate_left
        · rintro w' ⟨s0, s1, s2, s3, s4, s5, s6, s7, s8, s9, s10, s11, s12⟩
          go_simp
          with_reducible rfl
        rotate_left
        · simp only [Act.put, List.setIfInBounds_toArray, List.set_cons_zero, List.set_cons_succ, i64_w, i32_w]
          rfl
        refine take_ (i := 4) (N := some 14) (v := ?_) (a' := ?_) #[true, true, false, false, true, false, false, false, false, false] rfl rfl (take_ofW HT_.out HW_.out (by kernel_rfl)) (fun _ _ _ h => h) (Or.inl ⟨by rfl, ?_⟩) hHeld ?_ ?_
        rotate_left
        · rintro w' ⟨s0, s1, s2, s3, s4, s5, s6, s7, s8, s9, s10, s11, s12⟩
          go_simp
          with_reducible rfl
        rotate_left
        · simp only [Act.put, List.setIfInBounds_toArray, List.set_cons_zero, List.set_cons_succ, i64_w, i32_w]
          rfl
        refine one_ (i := 2) (N := some 12) #[true, true, true, false, true, false, false, false, false, false] rfl rfl (one_of HT_.out (by kernel_rfl)) (by decide) (fun K hK => ?_)
        refine goes_ Tryd.func29 (by kernel_rfl) rfl #[.int .i64 a0_0] (by rfl) rfl rfl (by (try simp only [List.map_toArray, List.map_cons, List.map_nil]); first | done | rfl | (simp only [List.length_drop, List.length_take]; rfl)) ?_
        with_reducible refine (gongref01_Grouped.calls k a0_0 t280 _ A4.out).mono ?_
        rintro e w13 ⟨rfl, hb⟩
        refine ⟨_, rfl, ?_⟩
        have n0_ := Aside0.mk (blk_below (g := gb278) (o := .cells #[.int .i64 a0_0, .int .i64 a0_1, .int .i64 a0_2, .string a0_3, .string a0_4, .string a0_5, .int .i64 a0_6, .string a0_7, .int .i64 a0_8, .int .i64 a0_9, .int .i64 a0_10, .bool a0_11, .string a0_12] 27 (0, 0)) (by (with_reducible repeat (first | refine blk_drewN ?_ _ | refine blk_drew ?_ | refine blk_alloc ?_ _)); exact BK278.out) hb)
        have n1_ := Aside0.mk (below_step (by repeat (first | (with_reducible first | exact HB.out | apply below_alloc | apply pw_below_drewN | apply below_drew1 | refine below_set ?_ GE278.out) | exact HB.out)) hb)
        clear BK278
        clear HB
        have BK278 := n0_
        have HB := n1_
        clear n0_ n1_
        (try clear hb)
        (try clear hb2)
        (try clear hk)
        (try clear hi)
        refine hK.out _ _ ⟨(blk_cell BK278.out 0).trans rfl, (blk_cell BK278.out 1).trans rfl, (blk_cell BK278.out 2).trans rfl, (blk_cell BK278.out 3).trans rfl, (blk_cell BK278.out 4).trans rfl, (blk_cell BK278.out 5).trans rfl, (blk_cell BK278.out 6).trans rfl, (blk_cell BK278.out 7).trans rfl, (blk_cell BK278.out 8).trans rfl, (blk_cell BK278.out 9).trans rfl, (blk_cell BK278.out 10).trans rfl, (blk_cell BK278.out 11).trans rfl, (blk_cell BK278.out 12).trans rfl⟩ (fun hHeld => ?_)
        clear hK K
        refine norm_ (a' := ?_) ?_ ?_
        rotate_left
        · show Act.put _ (some 12) _ = _
          simp only [Act.put, List.setIfInBounds_toArray, List.set_cons_zero, List.set_cons_succ, i64_w, i32_w]
          rfl
        refine pure_ (i := 3) (N := some 13) (v := ?_) (a' := ?_) #[true, true, true, true, true, false, false, false, false, false] rfl rfl (any_of HT_.out (by kernel_rfl)) (fun _ _ _ h => h) (Or.inl ⟨by rfl, ?_⟩) ?_ ?_
        rotate_left
        · intro w'
          go_simp
          with_reducible rfl
        rotate_left
        · simp only [Act.put, List.setIfInBounds_toArray, List.set_cons_zero, List.set_cons_succ, i64_w, i32_w]
          rfl
        refine one_ (i := 5) (N := some 15) #[true, true, true, true, true, true, false, false, false, false] rfl rfl (one_of HT_.out (by kernel_rfl)) (by decide) (fun K hK => ?_)
        refine goes_ Tryd.func27 (by kernel_rfl) rfl #[.agg #[.int .i64 a0_0, .int .i64 a0_1, .int .i64 a0_2, .string a0_3, .string a0_4, .string a0_5, .int .i64 a0_6, .string a0_7, .int .i64 a0_8, .int .i64 a0_9, .int .i64 a0_10, .bool a0_11, .string a0_12]] (by rfl) rfl rfl (by (try simp only [List.map_toArray, List.map_cons, List.map_nil]); first | done | rfl | (simp only [List.length_drop, List.length_take]; rfl)) ?_
        with_reducible refine (gongref23_Put.calls k a0_0 a0_1 a0_2 a0_3 a0_4 a0_5 a0_6 a0_7 a0_8 a0_9 a0_10 a0_11 a0_12 t281 _ A6.out).mono ?_
        rintro e w14 ⟨rfl, hb⟩
        refine ⟨_, rfl, ?_⟩
        have n0_ := Aside0.mk (blk_below (g := gb278) (o := .cells #[.int .i64 a0_0, .int .i64 a0_1, .int .i64 a0_2, .string a0_3, .string a0_4, .string a0_5, .int .i64 a0_6, .string a0_7, .int .i64 a0_8, .int .i64 a0_9, .int .i64 a0_10, .bool a0_11, .string a0_12] 27 (0, 0)) (by (with_reducible repeat (first | refine blk_drewN ?_ _ | refine blk_drew ?_ | refine blk_alloc ?_ _)); exact BK278.out) hb)
        have n1_ := Aside0.mk (below_step (by repeat (first | (with_reducible first | exact HB.out | apply below_alloc | apply pw_below_drewN | apply below_drew1 | refine below_set ?_ GE278.out) | exact HB.out)) hb)
        clear BK278
        clear HB
        have BK278 := n0_
        have HB := n1_
        clear n0_ n1_
        (try clear hb)
        (try clear hb2)
        (try clear hk)
        (try clear hi)
        refine hK.out _ _ ⟨(blk_cell BK278.out 0).trans rfl, (blk_cell BK278.out 1).trans rfl, (blk_cell BK278.out 2).trans rfl, (blk_cell BK278.out 3).trans rfl, (blk_cell BK278.out 4).trans rfl, (blk_cell BK278.out 5).trans rfl, (blk_cell BK278.out 6).trans rfl, (blk_cell BK278.out 7).trans rfl, (blk_cell BK278.out 8).trans rfl, (blk_cell BK278.out 9).trans rfl, (blk_cell BK278.out 10).trans rfl, (blk_cell BK278.out 11).trans rfl, (blk_cell BK278.out 12).trans rfl⟩ (fun hHeld => ?_)
        clear hK K
        refine norm_ (a' := ?_) ?_ ?_
        rotate_left
        · show Act.put _ (some 15) _ = _
          simp only [Act.put, List.setIfInBounds_toArray, List.set_cons_zero, List.set_cons_succ, i64_w, i32_w]
          rfl
        refine pure_ (i := 6) (N := some 16) (v := ?_) (a' := ?_) #[true, true, true, true, true, true, true, false, false, false] rfl rfl (any_of HT_.out (by kernel_rfl)) (fun _ _ _ h => h) (Or.inl ⟨by rfl, ?_⟩) ?_ ?_
        rotate_left
        · intro w'
          go_simp
          with_reducible rfl
        rotate_left
        · simp only [Act.put, List.setIfInBounds_toArray, List.set_cons_zero, List.set_cons_succ, i64_w, i32_w]
          rfl
        refine one_ (i := 7) (N := some 17) #[true, true, true, true, true, true, true, true, false, false] rfl rfl (one_of HT_.out (by kernel_rfl)) (by decide) (fun K hK => ?_)
        refine goes_ Tryd.func28 (by kernel_rfl) rfl #[.string (((⟨#[71]⟩ : ByteArray) ++ t280) ++ t281)] (by rfl) rfl rfl (by (try simp only [List.map_toArray, List.map_cons, List.map_nil]); first | done | rfl | (simp only [List.length_drop, List.length_take]; rfl)) ?_
        with_reducible refine (gongref02_Tag.calls k (((⟨#[71]⟩ : ByteArray) ++ t280) ++ t281) t282 _ A8.out).mono ?_
        rintro e w15 ⟨rfl, hb⟩
        refine ⟨_, rfl, ?_⟩
        have n0_ := Aside0.mk (blk_below (g := gb278) (o := .cells #[.int .i64 a0_0, .int .i64 a0_1, .int .i64 a0_2, .string a0_3, .string a0_4, .string a0_5, .int .i64 a0_6, .string a0_7, .int .i64 a0_8, .int .i64 a0_9, .int .i64 a0_10, .bool a0_11, .string a0_12] 27 (0, 0)) (by (with_reducible repeat (first | refine blk_drewN ?_ _ | refine blk_drew ?_ | refine blk_alloc ?_ _)); exact BK278.out) hb)
        have n1_ := Aside0.mk (below_step (by repeat (first | (with_reducible first | exact HB.out | apply below_alloc | apply pw_below_drewN | apply below_drew1 | refine below_set ?_ GE278.out) | exact HB.out)) hb)
        clear BK278
        clear HB
        have BK278 := n0_
        have HB := n1_
        clear n0_ n1_
        (try clear hb)
        (try clear hb2)
        (try clear hk)
        (try clear hi)
        refine hK.out _ _ ⟨(blk_cell BK278.out 0).trans rfl, (blk_cell BK278.out 1).trans rfl, (blk_cell BK278.out 2).trans rfl, (blk_cell BK278.out 3).trans rfl, (blk_cell BK278.out 4).trans rfl, (blk_cell BK278.out 5).trans rfl, (blk_cell BK278.out 6).trans rfl, (blk_cell BK278.out 7).trans rfl, (blk_cell BK278.out 8).trans rfl, (blk_cell BK278.out 9).trans rfl, (blk_cell BK278.out 10).trans rfl, (blk_cell BK278.out 11).trans rfl, (blk_cell BK278.out 12).trans rfl⟩ (fun hHeld => ?_)
        clear hK K
        refine norm_ (a' := ?_) ?_ ?_
        rotate_left
        · show Act.put _ (some 17) _ = _
          simp only [Act.put, List.setIfInBounds_toArray, List.set_cons_zero, List.set_cons_succ, i64_w, i32_w]
          rfl
        refine pure_ (i := 8) (N := some 2) (v := ?_) (a' := ?_) #[true, true, true, true, true, true, true, true, true, false] rfl rfl (any_of HT_.out (by kernel_rfl)) (fun _ _ _ h => h) (Or.inl ⟨by rfl, ?_⟩) ?_ ?_
        rotate_left
        · intro w'
          go_simp
          with_reducible rfl
        rotate_left
        · simp only [Act.put, List.setIfInBounds_toArray, List.set_cons_zero, List.set_cons_succ, i64_w, i32_w]
          rfl
        refine pure_ (i := 9) (N := some 3) (v := ?_) (a' := ?_) #[true, true, true, true, true, true, true, true, true, true] rfl rfl (any_of HT_.out (by kernel_rfl)) (fun _ _ _ h => h) (Or.inl ⟨by rfl, ?_⟩) ?_ ?_
        rotate_left
        · intro w'
          go_simp
          with_reducible rfl
        rotate_left
        · simp only [Act.put, List.setIfInBounds_toArray, List.set_cons_zero, List.set_cons_succ, i64_w, i32_w]
          rfl
        refine done_ (done_of HT_.out (by kernel_rfl)) ?_
        try go_wp2
        go_ret2
        exact ⟨by first | rfl | (simp [errW_none, errW_some] <;> rfl) | (simp [*, errW_none, errW_some] <;> rfl), by repeat (first | (with_reducible first | exact HB.out | apply below_alloc | apply pw_below_drewN | apply below_drew1 | refine below_set ?_ GE278.out) | exact HB.out)⟩
      · rw [if_neg c7] at H
        exact absurd H (by simp)
    · rw [if_neg c5] at H
      exact absurd H (by simp)
  · rw [if_neg c3] at H
    have c3b0 : (t279 == 0) = false := beq_eq_false_iff_ne.mpr c3
    have c3b1 : (t279 != 0) = true := bne_iff_ne.mpr c3
    simp only [Option.some.injEq, Prod.mk.injEq] at H
    obtain ⟨rfl, rfl⟩ := H
    go_enter Tryd.func12, Tryd.ntmps12
    go_wp2_with (first | ((with_reducible refine gate_dst (N := 1) rfl ?_); refine box_event ?hg (N := 1) ?hd (cs := #[.int .i64 a0_0, .int .i64 a0_1, .int .i64 a0_2, .string a0_3, .string a0_4, .string a0_5, .int .i64 a0_6, .string a0_7, .int .i64 a0_8, .int .i64 a0_9, .int .i64 a0_10, .bool a0_11, .string a0_12]) (t := 27) ?hr ?_; (case hd => rfl); (case hg => rfl); (case hr => first | (go_simp; done) | (go_simp; rfl)); intro gb278 hg w16 hbox hb; have n0_ := Aside0.mk (below_step (by repeat (first | (with_reducible first | exact HB.out | apply below_alloc | apply pw_below_drewN | apply below_drew1) | exact HB.out)) hb); have n1_ := Aside0.mk (hbox); have n2_ := Aside0.mk ((by rw [hg]; exact (below_size (by repeat (first | (with_reducible first | exact HB.out | apply below_alloc | apply pw_below_drewN | apply below_drew1) | exact HB.out))) : w.heap.size ≤ gb278)); have n3_ := Aside0.mk ((by rw [hg]; exact (below_size (by repeat (first | (with_reducible first | exact HB.out | apply below_alloc | apply pw_below_drewN | apply below_drew1) | exact HB.out))) : w.heap.size ≤ gb278)); clear HB; have HB := n0_; have BK278 := n1_; have GW278 := n2_; have GE278 := n3_; clear n0_ n1_ n2_ n3_; clear hb hbox hg; obtain ⟨hcz17_0, hcz17_1, hcz17_2, hcz17_3, hcz17_4, hcz17_5, hcz17_6, hcz17_7, hcz17_8, hcz17_9, hcz17_10, hcz17_11, hcz17_12⟩ := cell13 BK278.out; obtain ⟨hfz17_0, hfz17_1, hfz17_2, hfz17_3, hfz17_4, hfz17_5, hfz17_6, hfz17_7, hfz17_8, hfz17_9, hfz17_10, hfz17_11, hfz17_12⟩ := froz13 BK278.out) | ((with_reducible refine gate_callee (f := 16) rfl ?_); refine goesL_ (some 6) rfl rfl Tryd.func16 (by kernel_rfl) rfl #[.agg #[.int .i64 a0_0, .int .i64 a0_1, .int .i64 a0_2, .string a0_3, .string a0_4, .string a0_5, .int .i64 a0_6, .string a0_7, .int .i64 a0_8, .int .i64 a0_9, .int .i64 a0_10, .bool a0_11, .string a0_12]] rfl (by (try simp only [List.map_toArray, List.map_cons, List.map_nil]); first | done | rfl | (simp only [List.length_drop, List.length_take]; rfl)) ?_; (with_reducible refine (gongref23_Check.calls k a0_0 a0_1 a0_2 a0_3 a0_4 a0_5 a0_6 a0_7 a0_8 a0_9 a0_10 a0_11 a0_12 t279 _ A2.out).mono ?_); rintro e w18 ⟨rfl, hb⟩; refine ⟨_, rfl, ?_⟩; have n0_ := Aside0.mk (blk_below (g := gb278) (o := .cells #[.int .i64 a0_0, .int .i64 a0_1, .int .i64 a0_2, .string a0_3, .string a0_4, .string a0_5, .int .i64 a0_6, .string a0_7, .int .i64 a0_8, .int .i64 a0_9, .int .i64 a0_10, .bool a0_11, .string a0_12] 27 (0, 0)) (by (with_reducible repeat (first | refine blk_drewN ?_ _ | refine blk_drew ?_ | refine blk_alloc ?_ _)); exact BK278.out) hb); have n1_ := Aside0.mk (below_step (by repeat (first | (with_reducible first | exact HB.out | apply below_alloc | apply pw_below_drewN | apply below_drew1 | refine below_set ?_ GE278.out) | exact HB.out)) hb); clear BK278; clear HB; have BK278 := n0_; have HB := n1_; clear n0_ n1_; (try clear hb); (try clear hb2); (try clear hk); (try clear hi)))
    go_ret2
    exact ⟨by first | rfl | (simp [errW_none, errW_some] <;> rfl) | (simp [*, errW_none, errW_some] <;> rfl), by repeat (first | (with_reducible first | exact HB.out | apply below_alloc | apply pw_below_drewN | apply below_drew1 | refine below_set ?_ GE278.out) | exact HB.out)⟩
end Go.Proofs.YtipenplplmdclaaDoor.Px
end
section
namespace Go.Proofs.YtipenplplmdclaaDoor.Px
open Go.RowKit Go.Proofs.YtipenplplmdclaaDoorW.PrintWords Go.Proofs.YtipenplplmdclaaDoorW.PrintLast Go.Proofs.YtipenplplmdclaaDoorW.PrintMore
attribute [local go_sem] max2_int min2_int max_two min_two max_three min_three max_four min_four
set_option linter.unusedVariables false
set_option linter.unusedSimpArgs false
def gongref23_Ack.j0 : Nat → Int → Bool → Option (ByteArray × Int)
  | 0, _, _ => none
  | k + 1, x0, x9 => if x9 = true then (some ((⟨#[]⟩ : ByteArray), 230)) else ((gongref01_Grouped.f k x0).bind fun t283 => (if 1 + t283.size ≤ 9223372036854775807 then ((gongref02_Tag.f k ((⟨#[65]⟩ : ByteArray) ++ t283)).bind fun t284 => (some (t284, 0))) else (none)))
def gongref23_Ack.f (k : Nat) (a0 : Int) : Option (ByteArray × Int) := if a0 < 1 then (gongref23_Ack.j0 k a0 true) else (gongref23_Ack.j0 k a0 (decide (a0 > 1152921504606846976)))
set_option maxHeartbeats 8000000 in
set_option maxRecDepth 100000 in
theorem gongref23_Ack.calls (k : Nat) (a0 : Int) (r1 : ByteArray) (r2 : Int) (w : World) (h : gongref23_Ack.f k a0 = some (r1, r2)) :
    Calls Tryd.prog 14 #[.int .i64 a0] w fun e w' => e = .returned (.tuple #[.string r1, .int .i64 r2]) ∧ Below w.heap.size w w' := by
  have HB := Aside0.mk (Below.refl w.heap.size w)
  have H : (if a0 < 1 then (gongref23_Ack.j0 k a0 true) else (gongref23_Ack.j0 k a0 (decide (a0 > 1152921504606846976)))) = some (r1, r2) := h
  clear h
  have HC2 := Aside0.mk H
  clear H
  go_enter Tryd.func14, Tryd.ntmps14
  go_upto_region 1 with (fail)
  go_cut [9] (fun v9 wc => ∃ (kq : Nat) (x9_1 : Bool), v9 = .bool x9_1 ∧ Aside0 (gongref23_Ack.j0 kq a0 x9_1 = some (r1, r2)) ∧ Aside0 (kq ≤ k) ∧ Aside0 (Below w.heap.size w wc))
  case first =>
    have H := HC2.out
    clear HC2
    by_cases c3 : a0 < 1
    · rw [if_pos c3] at H
      have c3b0 : decide (a0 < 1) = true := decide_eq_true c3
      clear c3
      (first | rw [c3b0] | (simp only [i64_w, i32_w]; rw [c3b0]) | skip)
      have H' := Aside0.mk H
      clear H
      go_wp2
      go_meet
      case rel => exact ⟨_, (true), (by first | rfl | (simp; done) | (simp [*]; done)), H', ⟨by first | omega | exact Nat.le_refl _⟩, ⟨by repeat (first | (with_reducible first | exact HB.out | apply below_alloc | apply pw_below_drewN | apply below_drew1) | exact HB.out)⟩⟩
    · rw [if_neg c3] at H
      have c3b0 : decide (a0 < 1) = false := decide_eq_false c3
      clear c3
      (first | rw [c3b0] | (simp only [i64_w, i32_w]; rw [c3b0]) | skip)
      have H' := Aside0.mk H
      clear H
      go_wp2
      go_meet
      case rel => exact ⟨_, (decide (a0 > 1152921504606846976)), (by first | rfl | (simp; done) | (simp [*]; done)), H', ⟨by first | omega | exact Nat.le_refl _⟩, ⟨by repeat (first | (with_reducible first | exact HB.out | apply below_alloc | apply pw_below_drewN | apply below_drew1) | exact HB.out)⟩⟩
  case rest =>
    clear HC2
    try clear c1
    try clear p2
    try clear c3
    try clear c3b0
    obtain ⟨kq, x9_1, rfl, HA, HJ1, HB⟩ := hcut
    cases kq with
    | zero => exact absurd HA.out (by simp [gongref23_Ack.j0])
    | succ kj1 =>
      have H := HA.out
      clear HA
      simp only [gongref23_Ack.j0] at H
      by_cases c4 : x9_1 = true
      · subst c4
        have H1 : (some ((⟨#[]⟩ : ByteArray), 230)) = some (r1, r2) := by rw [if_pos rfl] at H; exact H
        clear H
        have H := H1
        clear H1
        simp only [Option.some.injEq, Prod.mk.injEq] at H
        obtain ⟨rfl, rfl⟩ := H
        go_wp2
        go_ret2
        exact ⟨by first | rfl | (simp [errW_none, errW_some] <;> rfl) | (simp [*, errW_none, errW_some] <;> rfl), by repeat (first | (with_reducible first | exact HB.out | apply below_alloc | apply pw_below_drewN | apply below_drew1) | exact HB.out)⟩
      · replace c4 := Bool.eq_false_iff.mpr c4
        subst c4
        have H1 : ((gongref01_Grouped.f kj1 a0).bind fun t283 => (if 1 + t283.size ≤ 9223372036854775807 then ((gongref02_Tag.f kj1 ((⟨#[65]⟩ : ByteArray) ++ t283)).bind fun t284 => (some (t284, 0))) else (none))) = some (r1, r2) := by rw [if_neg (show ¬ (false = true) by decide)] at H; exact H
        clear H
        have H := H1
        clear H1
        replace H := Option.bind_eq_some_iff.mp H
        obtain ⟨t283, A50, H⟩ := H
        replace H : (if 1 + t283.size ≤ 9223372036854775807 then ((gongref02_Tag.f kj1 ((⟨#[65]⟩ : ByteArray) ++ t283)).bind fun t284 => (some (t284, 0))) else (none)) = some (r1, r2) := H
        have A5 := Aside0.mk A50
        clear A50
        by_cases c6 : 1 + t283.size ≤ 9223372036854775807
        · rw [if_pos c6] at H
          have c6b0 := eq_true c6
          have c6b1 : decide (1 + t283.size ≤ 9223372036854775807) = true := decide_eq_true c6
          try have c6b2 : (9223372036854775807 < 1 + t283.size) = False := eq_false (Nat.not_lt.2 c6)
          replace H := Option.bind_eq_some_iff.mp H
          obtain ⟨t284, A70, H⟩ := H
          replace H : (some (t284, 0)) = some (r1, r2) := H
          have A7 := Aside0.mk A70
          clear A70
          simp only [Option.some.injEq, Prod.mk.injEq] at H
          obtain ⟨rfl, rfl⟩ := H
          go_wp2_with (first | ((with_reducible refine gate_callee (f := 29) rfl ?_); refine goesL_ (some 11) rfl rfl Tryd.func29 (by kernel_rfl) rfl #[.int .i64 a0] rfl (by (try simp only [List.map_toArray, List.map_cons, List.map_nil]); first | done | rfl | (simp only [List.length_drop, List.length_take]; rfl)) ?_; (with_reducible refine (gongref01_Grouped.calls kj1 a0 t283 _ A5.out).mono ?_); rintro e w8 ⟨rfl, hb⟩; refine ⟨_, rfl, ?_⟩; have n0_ := Aside0.mk (below_step (by repeat (first | (with_reducible first | exact HB.out | apply below_alloc | apply pw_below_drewN | apply below_drew1) | exact HB.out)) hb); clear HB; have HB := n0_; clear n0_; (try clear hb); (try clear hb2); (try clear hk); (try clear hi)) | ((with_reducible refine gate_callee (f := 28) rfl ?_); refine goesL_ (some 13) rfl rfl Tryd.func28 (by kernel_rfl) rfl #[.string ((⟨#[65]⟩ : ByteArray) ++ t283)] rfl (by (try simp only [List.map_toArray, List.map_cons, List.map_nil]); first | done | rfl | (simp only [List.length_drop, List.length_take]; rfl)) ?_; (with_reducible refine (gongref02_Tag.calls kj1 ((⟨#[65]⟩ : ByteArray) ++ t283) t284 _ A7.out).mono ?_); rintro e w9 ⟨rfl, hb⟩; refine ⟨_, rfl, ?_⟩; have n0_ := Aside0.mk (below_step (by repeat (first | (with_reducible first | exact HB.out | apply below_alloc | apply pw_below_drewN | apply below_drew1) | exact HB.out)) hb); clear HB; have HB := n0_; clear n0_; (try clear hb); (try clear hb2); (try clear hk); (try clear hi)))
          go_ret2
          exact ⟨by first | rfl | (simp [errW_none, errW_some] <;> rfl) | (simp [*, errW_none, errW_some] <;> rfl), by repeat (first | (with_reducible first | exact HB.out | apply below_alloc | apply pw_below_drewN | apply below_drew1) | exact HB.out)⟩
        · rw [if_neg c6] at H
          exact absurd H (by simp)
end Go.Proofs.YtipenplplmdclaaDoor.Px
end
section
namespace Go.Proofs.YtipenplplmdclaaDoor.Px
open Go.RowKit Go.Proofs.YtipenplplmdclaaDoorW.PrintWords Go.Proofs.YtipenplplmdclaaDoorW.PrintLast Go.Proofs.YtipenplplmdclaaDoorW.PrintMore
attribute [local go_sem] max2_int min2_int max_two min_two max_three min_three max_four min_four
set_option linter.unusedVariables false
set_option linter.unusedSimpArgs false
def gonglaw23_TicketWrites.f (k : Nat) (a0_0 : Int) (a0_1 : Int) (a0_2 : Int) (a0_3 : ByteArray) (a0_4 : ByteArray) (a0_5 : ByteArray) (a0_6 : Int) (a0_7 : ByteArray) (a0_8 : Int) (a0_9 : Int) (a0_10 : Int) (a0_11 : Bool) (a0_12 : ByteArray) (a1 : Int) : Option (Bool) := (gonglaw23_short.f a0_0 a0_1 a0_2 a0_3 a0_4 a0_5 a0_6 a0_7 a0_8 a0_9 a0_10 a0_11 a0_12).bind fun t286 => (if t286 = true then ((ticket_Payload.f k a0_0 a0_1 a0_2 a0_3 a0_4 a0_5 a0_6 a0_7 a0_8 a0_9 a0_10 a0_11 a0_12).bind fun bt288 => ((gongref23_Payload.f k a0_0 a0_1 a0_2 a0_3 a0_4 a0_5 a0_6 a0_7 a0_8 a0_9 a0_10 a0_11 a0_12).bind fun bt290 => ((ticket_Encode.f k a0_0 a0_1 a0_2 a0_3 a0_4 a0_5 a0_6 a0_7 a0_8 a0_9 a0_10 a0_11 a0_12).bind fun bt292 => ((gongref23_Encode.f k a0_0 a0_1 a0_2 a0_3 a0_4 a0_5 a0_6 a0_7 a0_8 a0_9 a0_10 a0_11 a0_12).bind fun bt294 => ((ticket_Ack.f k a1).bind fun bt296 => ((gongref23_Ack.f k a1).bind fun bt298 => ((ticket_Check.f k a0_0 a0_1 a0_2 a0_3 a0_4 a0_5 a0_6 a0_7 a0_8 a0_9 a0_10 a0_11 a0_12).bind fun t300 => ((gongref23_Check.f k a0_0 a0_1 a0_2 a0_3 a0_4 a0_5 a0_6 a0_7 a0_8 a0_9 a0_10 a0_11 a0_12).bind fun t301 => (if t300 = t301 then (if bt288.1.toList = bt290.1.toList then (if bt288.2 = bt290.2 then (if bt292.1.toList = bt294.1.toList then (if bt292.2 = bt294.2 then (if bt296.1.toList = bt298.1.toList then (if bt296.2 = bt298.2 then ((gonglaw23_works.f k).bind fun t302 => (some t302)) else (some false)) else (some false)) else (some false)) else (some false)) else (some false)) else (some false)) else (some false)))))))))) else ((gonglaw23_works.f k).bind fun t287 => (some t287)))
def gonglaw23_TicketWrites.T9 : Bool × List (List Nat × List Nat) := (true, [([], []), ([0], [0]), ([], []), ([2, 1], [2]), ([1, 3], [1, 3]), ([4, 3], [4]), ([5], [5]), ([5], [5]), ([6, 7, 5], [5, 6, 7]), ([5, 8], [5, 8]), ([9, 5], [9]), ([10], [10]), ([10], [10]), ([11, 12, 10], [10, 11, 12]), ([10, 13], [10, 13]), ([14, 10], [14]), ([15], [15]), ([15], [15]), ([16, 17, 15], [15, 16, 17]), ([15, 18], [15, 18]), ([19, 15], [19]), ([20], [20]), ([20], [20]), ([21, 22, 20], [20, 21, 22]), ([20, 23], [20, 23]), ([24, 20], [24]), ([25], [25]), ([25], [25]), ([26, 27, 25], [25, 26, 27]), ([25, 28], [25, 28]), ([29, 25], [29]), ([30], [30]), ([30], [30]), ([31, 32, 30], [30, 31, 32]), ([30, 33], [30, 33]), ([34, 30], [34]), ([35, 35], [35]), ([35, 36], [35, 36]), ([37, 36, 0, 1, 2, 3, 4, 5, 6, 7, 8, 9, 10, 11, 12, 13, 14, 15, 16, 17, 18, 19, 20, 21, 22, 23, 24, 25, 26, 27, 28, 29, 30, 31, 32, 33, 34, 35, 36, 37], [37])])
def gonglaw23_TicketWrites.B9 : List Nat := [0, 1, 0, 7, 15, 31, 63, 63, 255, 511, 1023, 2047, 2047, 8191, 16383, 32767, 65535, 65535, 262143, 524287, 1048575, 2097151, 2097151, 8388607, 16777215, 33554431, 67108863, 67108863, 268435455, 536870911, 1073741823, 2147483647, 2147483647, 8589934591, 17179869183, 34359738367, 68719476735, 137438953471, 274877906943]
theorem gonglaw23_TicketWrites.tab9 : rtab .any (opsOf Tryd.f3 9) = gonglaw23_TicketWrites.T9 := by kernel_rfl
theorem gonglaw23_TicketWrites.bits9 : waitsOk gonglaw23_TicketWrites.T9.2 gonglaw23_TicketWrites.B9 = true := by kernel_rfl
set_option maxHeartbeats 8000000 in
set_option maxRecDepth 100000 in
theorem gonglaw23_TicketWrites.calls (k : Nat) (a0_0 : Int) (a0_1 : Int) (a0_2 : Int) (a0_3 : ByteArray) (a0_4 : ByteArray) (a0_5 : ByteArray) (a0_6 : Int) (a0_7 : ByteArray) (a0_8 : Int) (a0_9 : Int) (a0_10 : Int) (a0_11 : Bool) (a0_12 : ByteArray) (a1 : Int) (r : Bool) (w : World) (HT : Aside0 (TabW w)) (h : gonglaw23_TicketWrites.f k a0_0 a0_1 a0_2 a0_3 a0_4 a0_5 a0_6 a0_7 a0_8 a0_9 a0_10 a0_11 a0_12 a1 = some r) (hr_ : r = true := by rfl) :
    Calls Tryd.prog 3 #[.agg #[.int .i64 a0_0, .int .i64 a0_1, .int .i64 a0_2, .string a0_3, .string a0_4, .string a0_5, .int .i64 a0_6, .string a0_7, .int .i64 a0_8, .int .i64 a0_9, .int .i64 a0_10, .bool a0_11, .string a0_12], .int .i64 a1] w fun e w' => e = .returned (.bool r) ∧ Below w.heap.size w w' := by
  have hu27 := Tryd.underlying27
  have HB := Aside0.mk (Below.refl w.heap.size w)
  have H : ((gonglaw23_short.f a0_0 a0_1 a0_2 a0_3 a0_4 a0_5 a0_6 a0_7 a0_8 a0_9 a0_10 a0_11 a0_12).bind fun t286 => (if t286 = true then ((ticket_Payload.f k a0_0 a0_1 a0_2 a0_3 a0_4 a0_5 a0_6 a0_7 a0_8 a0_9 a0_10 a0_11 a0_12).bind fun bt288 => ((gongref23_Payload.f k a0_0 a0_1 a0_2 a0_3 a0_4 a0_5 a0_6 a0_7 a0_8 a0_9 a0_10 a0_11 a0_12).bind fun bt290 => ((ticket_Encode.f k a0_0 a0_1 a0_2 a0_3 a0_4 a0_5 a0_6 a0_7 a0_8 a0_9 a0_10 a0_11 a0_12).bind fun bt292 => ((gongref23_Encode.f k a0_0 a0_1 a0_2 a0_3 a0_4 a0_5 a0_6 a0_7 a0_8 a0_9 a0_10 a0_11 a0_12).bind fun bt294 => ((ticket_Ack.f k a1).bind fun bt296 => ((gongref23_Ack.f k a1).bind fun bt298 => ((ticket_Check.f k a0_0 a0_1 a0_2 a0_3 a0_4 a0_5 a0_6 a0_7 a0_8 a0_9 a0_10 a0_11 a0_12).bind fun t300 => ((gongref23_Check.f k a0_0 a0_1 a0_2 a0_3 a0_4 a0_5 a0_6 a0_7 a0_8 a0_9 a0_10 a0_11 a0_12).bind fun t301 => (if t300 = t301 then (if bt288.1.toList = bt290.1.toList then (if bt288.2 = bt290.2 then (if bt292.1.toList = bt294.1.toList then (if bt292.2 = bt294.2 then (if bt296.1.toList = bt298.1.toList then (if bt296.2 = bt298.2 then ((gonglaw23_works.f k).bind fun t302 => (some t302)) else (some false)) else (some false)) else (some false)) else (some false)) else (some false)) else (some false)) else (some false)))))))))) else ((gonglaw23_works.f k).bind fun t287 => (some t287)))) = some r := h
  clear h
  replace H := Option.bind_eq_some_iff.mp H
  obtain ⟨t286, A30, H⟩ := H
  replace H : (if t286 = true then ((ticket_Payload.f k a0_0 a0_1 a0_2 a0_3 a0_4 a0_5 a0_6 a0_7 a0_8 a0_9 a0_10 a0_11 a0_12).bind fun bt288 => ((gongref23_Payload.f k a0_0 a0_1 a0_2 a0_3 a0_4 a0_5 a0_6 a0_7 a0_8 a0_9 a0_10 a0_11 a0_12).bind fun bt290 => ((ticket_Encode.f k a0_0 a0_1 a0_2 a0_3 a0_4 a0_5 a0_6 a0_7 a0_8 a0_9 a0_10 a0_11 a0_12).bind fun bt292 => ((gongref23_Encode.f k a0_0 a0_1 a0_2 a0_3 a0_4 a0_5 a0_6 a0_7 a0_8 a0_9 a0_10 a0_11 a0_12).bind fun bt294 => ((ticket_Ack.f k a1).bind fun bt296 => ((gongref23_Ack.f k a1).bind fun bt298 => ((ticket_Check.f k a0_0 a0_1 a0_2 a0_3 a0_4 a0_5 a0_6 a0_7 a0_8 a0_9 a0_10 a0_11 a0_12).bind fun t300 => ((gongref23_Check.f k a0_0 a0_1 a0_2 a0_3 a0_4 a0_5 a0_6 a0_7 a0_8 a0_9 a0_10 a0_11 a0_12).bind fun t301 => (if t300 = t301 then (if bt288.1.toList = bt290.1.toList then (if bt288.2 = bt290.2 then (if bt292.1.toList = bt294.1.toList then (if bt292.2 = bt294.2 then (if bt296.1.toList = bt298.1.toList then (if bt296.2 = bt298.2 then ((gonglaw23_works.f k).bind fun t302 => (some t302)) else (some false)) else (some false)) else (some false)) else (some false)) else (some false)) else (some false)) else (some false)))))))))) else ((gonglaw23_works.f k).bind fun t287 => (some t287))) = some r := H
  have A3 := Aside0.mk A30
  clear A30
  by_cases c4 : t286 = true
  · subst c4
    have H1 : ((ticket_Payload.f k a0_0 a0_1 a0_2 a0_3 a0_4 a0_5 a0_6 a0_7 a0_8 a0_9 a0_10 a0_11 a0_12).bind fun bt288 => ((gongref23_Payload.f k a0_0 a0_1 a0_2 a0_3 a0_4 a0_5 a0_6 a0_7 a0_8 a0_9 a0_10 a0_11 a0_12).bind fun bt290 => ((ticket_Encode.f k a0_0 a0_1 a0_2 a0_3 a0_4 a0_5 a0_6 a0_7 a0_8 a0_9 a0_10 a0_11 a0_12).bind fun bt292 => ((gongref23_Encode.f k a0_0 a0_1 a0_2 a0_3 a0_4 a0_5 a0_6 a0_7 a0_8 a0_9 a0_10 a0_11 a0_12).bind fun bt294 => ((ticket_Ack.f k a1).bind fun bt296 => ((gongref23_Ack.f k a1).bind fun bt298 => ((ticket_Check.f k a0_0 a0_1 a0_2 a0_3 a0_4 a0_5 a0_6 a0_7 a0_8 a0_9 a0_10 a0_11 a0_12).bind fun t300 => ((gongref23_Check.f k a0_0 a0_1 a0_2 a0_3 a0_4 a0_5 a0_6 a0_7 a0_8 a0_9 a0_10 a0_11 a0_12).bind fun t301 => (if t300 = t301 then (if bt288.1.toList = bt290.1.toList then (if bt288.2 = bt290.2 then (if bt292.1.toList = bt294.1.toList then (if bt292.2 = bt294.2 then (if bt296.1.toList = bt298.1.toList then (if bt296.2 = bt298.2 then ((gonglaw23_works.f k).bind fun t302 => (some t302)) else (some false)) else (some false)) else (some false)) else (some false)) else (some false)) else (some false)) else (some false)))))))))) = some r := by rw [if_pos rfl] at H; exact H
    clear H
    have H := H1
    clear H1
    replace H := Option.bind_eq_some_iff.mp H
    obtain ⟨⟨t288, t289⟩, A50, H⟩ := H
    replace H : ((gongref23_Payload.f k a0_0 a0_1 a0_2 a0_3 a0_4 a0_5 a0_6 a0_7 a0_8 a0_9 a0_10 a0_11 a0_12).bind fun bt290 => ((ticket_Encode.f k a0_0 a0_1 a0_2 a0_3 a0_4 a0_5 a0_6 a0_7 a0_8 a0_9 a0_10 a0_11 a0_12).bind fun bt292 => ((gongref23_Encode.f k a0_0 a0_1 a0_2 a0_3 a0_4 a0_5 a0_6 a0_7 a0_8 a0_9 a0_10 a0_11 a0_12).bind fun bt294 => ((ticket_Ack.f k a1).bind fun bt296 => ((gongref23_Ack.f k a1).bind fun bt298 => ((ticket_Check.f k a0_0 a0_1 a0_2 a0_3 a0_4 a0_5 a0_6 a0_7 a0_8 a0_9 a0_10 a0_11 a0_12).bind fun t300 => ((gongref23_Check.f k a0_0 a0_1 a0_2 a0_3 a0_4 a0_5 a0_6 a0_7 a0_8 a0_9 a0_10 a0_11 a0_12).bind fun t301 => (if t300 = t301 then (if t288.toList = bt290.1.toList then (if t289 = bt290.2 then (if bt292.1.toList = bt294.1.toList then (if bt292.2 = bt294.2 then (if bt296.1.toList = bt298.1.toList then (if bt296.2 = bt298.2 then ((gonglaw23_works.f k).bind fun t302 => (some t302)) else (some false)) else (some false)) else (some false)) else (some false)) else (some false)) else (some false)) else (some false))))))))) = some r := H
    have A5 := Aside0.mk A50
    clear A50
    replace H := Option.bind_eq_some_iff.mp H
    obtain ⟨⟨t290, t291⟩, A60, H⟩ := H
    replace H : ((ticket_Encode.f k a0_0 a0_1 a0_2 a0_3 a0_4 a0_5 a0_6 a0_7 a0_8 a0_9 a0_10 a0_11 a0_12).bind fun bt292 => ((gongref23_Encode.f k a0_0 a0_1 a0_2 a0_3 a0_4 a0_5 a0_6 a0_7 a0_8 a0_9 a0_10 a0_11 a0_12).bind fun bt294 => ((ticket_Ack.f k a1).bind fun bt296 => ((gongref23_Ack.f k a1).bind fun bt298 => ((ticket_Check.f k a0_0 a0_1 a0_2 a0_3 a0_4 a0_5 a0_6 a0_7 a0_8 a0_9 a0_10 a0_11 a0_12).bind fun t300 => ((gongref23_Check.f k a0_0 a0_1 a0_2 a0_3 a0_4 a0_5 a0_6 a0_7 a0_8 a0_9 a0_10 a0_11 a0_12).bind fun t301 => (if t300 = t301 then (if t288.toList = t290.toList then (if t289 = t291 then (if bt292.1.toList = bt294.1.toList then (if bt292.2 = bt294.2 then (if bt296.1.toList = bt298.1.toList then (if bt296.2 = bt298.2 then ((gonglaw23_works.f k).bind fun t302 => (some t302)) else (some false)) else (some false)) else (some false)) else (some false)) else (some false)) else (some false)) else (some false)))))))) = some r := H
    have A6 := Aside0.mk A60
    clear A60
    replace H := Option.bind_eq_some_iff.mp H
    obtain ⟨⟨t292, t293⟩, A70, H⟩ := H
    replace H : ((gongref23_Encode.f k a0_0 a0_1 a0_2 a0_3 a0_4 a0_5 a0_6 a0_7 a0_8 a0_9 a0_10 a0_11 a0_12).bind fun bt294 => ((ticket_Ack.f k a1).bind fun bt296 => ((gongref23_Ack.f k a1).bind fun bt298 => ((ticket_Check.f k a0_0 a0_1 a0_2 a0_3 a0_4 a0_5 a0_6 a0_7 a0_8 a0_9 a0_10 a0_11 a0_12).bind fun t300 => ((gongref23_Check.f k a0_0 a0_1 a0_2 a0_3 a0_4 a0_5 a0_6 a0_7 a0_8 a0_9 a0_10 a0_11 a0_12).bind fun t301 => (if t300 = t301 then (if t288.toList = t290.toList then (if t289 = t291 then (if t292.toList = bt294.1.toList then (if t293 = bt294.2 then (if bt296.1.toList = bt298.1.toList then (if bt296.2 = bt298.2 then ((gonglaw23_works.f k).bind fun t302 => (some t302)) else (some false)) else (some false)) else (some false)) else (some false)) else (some false)) else (some false)) else (some false))))))) = some r := H
    have A7 := Aside0.mk A70
    clear A70
    replace H := Option.bind_eq_some_iff.mp H
    obtain ⟨⟨t294, t295⟩, A80, H⟩ := H
    replace H : ((ticket_Ack.f k a1).bind fun bt296 => ((gongref23_Ack.f k a1).bind fun bt298 => ((ticket_Check.f k a0_0 a0_1 a0_2 a0_3 a0_4 a0_5 a0_6 a0_7 a0_8 a0_9 a0_10 a0_11 a0_12).bind fun t300 => ((gongref23_Check.f k a0_0 a0_1 a0_2 a0_3 a0_4 a0_5 a0_6 a0_7 a0_8 a0_9 a0_10 a0_11 a0_12).bind fun t301 => (if t300 = t301 then (if t288.toList = t290.toList then (if t289 = t291 then (if t292.toList = t294.toList then (if t293 = t295 then (if bt296.1.toList = bt298.1.toList then (if bt296.2 = bt298.2 then ((gonglaw23_works.f k).bind fun t302 => (some t302)) else (some false)) else (some false)) else (some false)) else (some false)) else (some false)) else (some false)) else (some false)))))) = some r := H
    have A8 := Aside0.mk A80
    clear A80
    replace H := Option.bind_eq_some_iff.mp H
    obtain ⟨⟨t296, t297⟩, A90, H⟩ := H
    replace H : ((gongref23_Ack.f k a1).bind fun bt298 => ((ticket_Check.f k a0_0 a0_1 a0_2 a0_3 a0_4 a0_5 a0_6 a0_7 a0_8 a0_9 a0_10 a0_11 a0_12).bind fun t300 => ((gongref23_Check.f k a0_0 a0_1 a0_2 a0_3 a0_4 a0_5 a0_6 a0_7 a0_8 a0_9 a0_10 a0_11 a0_12).bind fun t301 => (if t300 = t301 then (if t288.toList = t290.toList then (if t289 = t291 then (if t292.toList = t294.toList then (if t293 = t295 then (if t296.toList = bt298.1.toList then (if t297 = bt298.2 then ((gonglaw23_works.f k).bind fun t302 => (some t302)) else (some false)) else (some false)) else (some false)) else (some false)) else (some false)) else (some false)) else (some false))))) = some r := H
    have A9 := Aside0.mk A90
    clear A90
    replace H := Option.bind_eq_some_iff.mp H
    obtain ⟨⟨t298, t299⟩, A100, H⟩ := H
    replace H : ((ticket_Check.f k a0_0 a0_1 a0_2 a0_3 a0_4 a0_5 a0_6 a0_7 a0_8 a0_9 a0_10 a0_11 a0_12).bind fun t300 => ((gongref23_Check.f k a0_0 a0_1 a0_2 a0_3 a0_4 a0_5 a0_6 a0_7 a0_8 a0_9 a0_10 a0_11 a0_12).bind fun t301 => (if t300 = t301 then (if t288.toList = t290.toList then (if t289 = t291 then (if t292.toList = t294.toList then (if t293 = t295 then (if t296.toList = t298.toList then (if t297 = t299 then ((gonglaw23_works.f k).bind fun t302 => (some t302)) else (some false)) else (some false)) else (some false)) else (some false)) else (some false)) else (some false)) else (some false)))) = some r := H
    have A10 := Aside0.mk A100
    clear A100
    replace H := Option.bind_eq_some_iff.mp H
    obtain ⟨t300, A110, H⟩ := H
    replace H : ((gongref23_Check.f k a0_0 a0_1 a0_2 a0_3 a0_4 a0_5 a0_6 a0_7 a0_8 a0_9 a0_10 a0_11 a0_12).bind fun t301 => (if t300 = t301 then (if t288.toList = t290.toList then (if t289 = t291 then (if t292.toList = t294.toList then (if t293 = t295 then (if t296.toList = t298.toList then (if t297 = t299 then ((gonglaw23_works.f k).bind fun t302 => (some t302)) else (some false)) else (some false)) else (some false)) else (some false)) else (some false)) else (some false)) else (some false))) = some r := H
    have A11 := Aside0.mk A110
    clear A110
    replace H := Option.bind_eq_some_iff.mp H
    obtain ⟨t301, A120, H⟩ := H
    replace H : (if t300 = t301 then (if t288.toList = t290.toList then (if t289 = t291 then (if t292.toList = t294.toList then (if t293 = t295 then (if t296.toList = t298.toList then (if t297 = t299 then ((gonglaw23_works.f k).bind fun t302 => (some t302)) else (some false)) else (some false)) else (some false)) else (some false)) else (some false)) else (some false)) else (some false)) = some r := H
    have A12 := Aside0.mk A120
    clear A120
    by_cases c13 : t300 = t301
    · rw [if_pos c13] at H
      have c13b0 : (t300 == t301) = true := beq_iff_eq.mpr c13
      have c13b1 : (t300 != t301) = false := bne_eq_false_iff_eq.mpr c13
      clear c13
      by_cases c14 : t288.toList = t290.toList
      · rw [if_pos c14] at H
        have c14b0 : (t288.toList == t290.toList) = true := beq_iff_eq.mpr c14
        have c14b1 : (t288.toList != t290.toList) = false := bne_eq_false_iff_eq.mpr c14
        clear c14
        by_cases c15 : t289 = t291
        · rw [if_pos c15] at H
          have c15b0 : (t289 == t291) = true := beq_iff_eq.mpr c15
          have c15b1 : (t289 != t291) = false := bne_eq_false_iff_eq.mpr c15
          clear c15
          by_cases c16 : t292.toList = t294.toList
          · rw [if_pos c16] at H
            have c16b0 : (t292.toList == t294.toList) = true := beq_iff_eq.mpr c16
            have c16b1 : (t292.toList != t294.toList) = false := bne_eq_false_iff_eq.mpr c16
            clear c16
            by_cases c17 : t293 = t295
            · rw [if_pos c17] at H
              have c17b0 : (t293 == t295) = true := beq_iff_eq.mpr c17
              have c17b1 : (t293 != t295) = false := bne_eq_false_iff_eq.mpr c17
              clear c17
              by_cases c18 : t296.toList = t298.toList
              · rw [if_pos c18] at H
                have c18b0 : (t296.toList == t298.toList) = true := beq_iff_eq.mpr c18
                have c18b1 : (t296.toList != t298.toList) = false := bne_eq_false_iff_eq.mpr c18
                clear c18
                by_cases c19 : t297 = t299
                · rw [if_pos c19] at H
                  have c19b0 : (t297 == t299) = true := beq_iff_eq.mpr c19
                  have c19b1 : (t297 != t299) = false := bne_eq_false_iff_eq.mpr c19
                  clear c19
                  replace H := Option.bind_eq_some_iff.mp H
                  obtain ⟨t302, A200, H⟩ := H
                  replace H : (some t302) = some r := H
                  have A20 := Aside0.mk A200
                  clear A200
                  obtain rfl := Option.some.inj H
                  go_enter Tryd.func3, Tryd.ntmps3
                  try go_wp2_with (first | ((with_reducible refine gate_dst (N := 2) rfl ?_); refine box_event ?hg (N := 2) ?hd (cs := #[.int .i64 a0_0, .int .i64 a0_1, .int .i64 a0_2, .string a0_3, .string a0_4, .string a0_5, .int .i64 a0_6, .string a0_7, .int .i64 a0_8, .int .i64 a0_9, .int .i64 a0_10, .bool a0_11, .string a0_12]) (t := 27) ?hr ?_; (case hd => rfl); (case hg => rfl); (case hr => first | (go_simp; done) | (go_simp; rfl)); intro gb285 hg w21 hbox hb; have n0_ := Aside0.mk (below_step (by repeat (first | (with_reducible first | exact HB.out | apply below_alloc | apply pw_below_drewN | apply below_drew1) | exact HB.out)) hb); have n1_ := Aside0.mk (hbox); have n2_ := Aside0.mk ((by rw [hg]; exact (below_size (by repeat (first | (with_reducible first | exact HB.out | apply below_alloc | apply pw_below_drewN | apply below_drew1) | exact HB.out))) : w.heap.size ≤ gb285)); have n3_ := Aside0.mk ((by rw [hg]; exact (below_size (by repeat (first | (with_reducible first | exact HB.out | apply below_alloc | apply pw_below_drewN | apply below_drew1) | exact HB.out))) : w.heap.size ≤ gb285)); clear HB; have HB := n0_; have BK285 := n1_; have GW285 := n2_; have GE285 := n3_; clear n0_ n1_ n2_ n3_; clear hb hbox hg; obtain ⟨hcz22_0, hcz22_1, hcz22_2, hcz22_3, hcz22_4, hcz22_5, hcz22_6, hcz22_7, hcz22_8, hcz22_9, hcz22_10, hcz22_11, hcz22_12⟩ := cell13 BK285.out; obtain ⟨hfz22_0, hfz22_1, hfz22_2, hfz22_3, hfz22_4, hfz22_5, hfz22_6, hfz22_7, hfz22_8, hfz22_9, hfz22_10, hfz22_11, hfz22_12⟩ := froz13 BK285.out) | ((with_reducible refine gate_callee (f := 7) rfl ?_); refine goesL_ (some 18) rfl rfl Tryd.func7 (by kernel_rfl) rfl #[.agg #[.int .i64 a0_0, .int .i64 a0_1, .int .i64 a0_2, .string a0_3, .string a0_4, .string a0_5, .int .i64 a0_6, .string a0_7, .int .i64 a0_8, .int .i64 a0_9, .int .i64 a0_10, .bool a0_11, .string a0_12]] rfl (by (try simp only [List.map_toArray, List.map_cons, List.map_nil]); first | done | rfl | (simp only [List.length_drop, List.length_take]; rfl)) ?_; (with_reducible refine (gonglaw23_short.calls a0_0 a0_1 a0_2 a0_3 a0_4 a0_5 a0_6 a0_7 a0_8 a0_9 a0_10 a0_11 a0_12 true _ A3.out).mono ?_); rintro e w23 ⟨rfl, hb⟩; refine ⟨_, rfl, ?_⟩; have n0_ := Aside0.mk (blk_below (g := gb285) (o := .cells #[.int .i64 a0_0, .int .i64 a0_1, .int .i64 a0_2, .string a0_3, .string a0_4, .string a0_5, .int .i64 a0_6, .string a0_7, .int .i64 a0_8, .int .i64 a0_9, .int .i64 a0_10, .bool a0_11, .string a0_12] 27 (0, 0)) (by (with_reducible repeat (first | refine blk_drewN ?_ _ | refine blk_drew ?_ | refine blk_alloc ?_ _)); exact BK285.out) hb); have n1_ := Aside0.mk (below_step (by repeat (first | (with_reducible first | exact HB.out | apply below_alloc | apply pw_below_drewN | apply below_drew1 | refine below_set ?_ GE285.out) | exact HB.out)) hb); clear BK285; clear HB; have BK285 := n0_; have HB := n1_; clear n0_ n1_; (try clear hb); (try clear hb2); (try clear hk); (try clear hi); obtain ⟨hcz24_0, hcz24_1, hcz24_2, hcz24_3, hcz24_4, hcz24_5, hcz24_6, hcz24_7, hcz24_8, hcz24_9, hcz24_10, hcz24_11, hcz24_12⟩ := cell13 BK285.out; obtain ⟨hfz24_0, hfz24_1, hfz24_2, hfz24_3, hfz24_4, hfz24_5, hfz24_6, hfz24_7, hfz24_8, hfz24_9, hfz24_10, hfz24_11, hfz24_12⟩ := froz13 BK285.out) | ((with_reducible refine gate_callee (f := 9) rfl ?_); refine goesL_ (some 23) rfl rfl Tryd.func9 (by kernel_rfl) rfl #[.agg #[.int .i64 a0_0, .int .i64 a0_1, .int .i64 a0_2, .string a0_3, .string a0_4, .string a0_5, .int .i64 a0_6, .string a0_7, .int .i64 a0_8, .int .i64 a0_9, .int .i64 a0_10, .bool a0_11, .string a0_12]] rfl (by (try simp only [List.map_toArray, List.map_cons, List.map_nil]); first | done | rfl | (simp only [List.length_drop, List.length_take]; rfl)) ?_; (with_reducible refine (ticket_Payload.calls k a0_0 a0_1 a0_2 a0_3 a0_4 a0_5 a0_6 a0_7 a0_8 a0_9 a0_10 a0_11 a0_12 t288 t289 _ ⟨TabW.now HT.out (by repeat (first | (with_reducible first | exact HB.out | apply below_alloc | apply pw_below_drewN | apply below_drew1 | refine below_set ?_ GE285.out) | exact HB.out))⟩ A5.out).mono ?_); rintro e w25 ⟨rfl, hb⟩; refine ⟨_, rfl, ?_⟩; have n0_ := Aside0.mk (blk_below (g := gb285) (o := .cells #[.int .i64 a0_0, .int .i64 a0_1, .int .i64 a0_2, .string a0_3, .string a0_4, .string a0_5, .int .i64 a0_6, .string a0_7, .int .i64 a0_8, .int .i64 a0_9, .int .i64 a0_10, .bool a0_11, .string a0_12] 27 (0, 0)) (by (with_reducible repeat (first | refine blk_drewN ?_ _ | refine blk_drew ?_ | refine blk_alloc ?_ _)); exact BK285.out) hb); have n1_ := Aside0.mk (below_step (by repeat (first | (with_reducible first | exact HB.out | apply below_alloc | apply pw_below_drewN | apply below_drew1 | refine below_set ?_ GE285.out) | exact HB.out)) hb); clear BK285; clear HB; have BK285 := n0_; have HB := n1_; clear n0_ n1_; (try clear hb); (try clear hb2); (try clear hk); (try clear hi); obtain ⟨hcz26_0, hcz26_1, hcz26_2, hcz26_3, hcz26_4, hcz26_5, hcz26_6, hcz26_7, hcz26_8, hcz26_9, hcz26_10, hcz26_11, hcz26_12⟩ := cell13 BK285.out; obtain ⟨hfz26_0, hfz26_1, hfz26_2, hfz26_3, hfz26_4, hfz26_5, hfz26_6, hfz26_7, hfz26_8, hfz26_9, hfz26_10, hfz26_11, hfz26_12⟩ := froz13 BK285.out) | ((with_reducible refine gate_callee (f := 10) rfl ?_); refine goesL_ (some 28) rfl rfl Tryd.func10 (by kernel_rfl) rfl #[.agg #[.int .i64 a0_0, .int .i64 a0_1, .int .i64 a0_2, .string a0_3, .string a0_4, .string a0_5, .int .i64 a0_6, .string a0_7, .int .i64 a0_8, .int .i64 a0_9, .int .i64 a0_10, .bool a0_11, .string a0_12]] rfl (by (try simp only [List.map_toArray, List.map_cons, List.map_nil]); first | done | rfl | (simp only [List.length_drop, List.length_take]; rfl)) ?_; (with_reducible refine (gongref23_Payload.calls k a0_0 a0_1 a0_2 a0_3 a0_4 a0_5 a0_6 a0_7 a0_8 a0_9 a0_10 a0_11 a0_12 t290 t291 _ A6.out).mono ?_); rintro e w27 ⟨rfl, hb⟩; refine ⟨_, rfl, ?_⟩; have n0_ := Aside0.mk (blk_below (g := gb285) (o := .cells #[.int .i64 a0_0, .int .i64 a0_1, .int .i64 a0_2, .string a0_3, .string a0_4, .string a0_5, .int .i64 a0_6, .string a0_7, .int .i64 a0_8, .int .i64 a0_9, .int .i64 a0_10, .bool a0_11, .string a0_12] 27 (0, 0)) (by (with_reducible repeat (first | refine blk_drewN ?_ _ | refine blk_drew ?_ | refine blk_alloc ?_ _)); exact BK285.out) hb); have n1_ := Aside0.mk (below_step (by repeat (first | (with_reducible first | exact HB.out | apply below_alloc | apply pw_below_drewN | apply below_drew1 | refine below_set ?_ GE285.out) | exact HB.out)) hb); clear BK285; clear HB; have BK285 := n0_; have HB := n1_; clear n0_ n1_; (try clear hb); (try clear hb2); (try clear hk); (try clear hi); obtain ⟨hcz28_0, hcz28_1, hcz28_2, hcz28_3, hcz28_4, hcz28_5, hcz28_6, hcz28_7, hcz28_8, hcz28_9, hcz28_10, hcz28_11, hcz28_12⟩ := cell13 BK285.out; obtain ⟨hfz28_0, hfz28_1, hfz28_2, hfz28_3, hfz28_4, hfz28_5, hfz28_6, hfz28_7, hfz28_8, hfz28_9, hfz28_10, hfz28_11, hfz28_12⟩ := froz13 BK285.out) | ((with_reducible refine gate_callee (f := 11) rfl ?_); refine goesL_ (some 33) rfl rfl Tryd.func11 (by kernel_rfl) rfl #[.agg #[.int .i64 a0_0, .int .i64 a0_1, .int .i64 a0_2, .string a0_3, .string a0_4, .string a0_5, .int .i64 a0_6, .string a0_7, .int .i64 a0_8, .int .i64 a0_9, .int .i64 a0_10, .bool a0_11, .string a0_12]] rfl (by (try simp only [List.map_toArray, List.map_cons, List.map_nil]); first | done | rfl | (simp only [List.length_drop, List.length_take]; rfl)) ?_; (with_reducible refine (ticket_Encode.calls k a0_0 a0_1 a0_2 a0_3 a0_4 a0_5 a0_6 a0_7 a0_8 a0_9 a0_10 a0_11 a0_12 t292 t293 _ ⟨TabW.now HT.out (by repeat (first | (with_reducible first | exact HB.out | apply below_alloc | apply pw_below_drewN | apply below_drew1 | refine below_set ?_ GE285.out) | exact HB.out))⟩ A7.out).mono ?_); rintro e w29 ⟨rfl, hb⟩; refine ⟨_, rfl, ?_⟩; have n0_ := Aside0.mk (blk_below (g := gb285) (o := .cells #[.int .i64 a0_0, .int .i64 a0_1, .int .i64 a0_2, .string a0_3, .string a0_4, .string a0_5, .int .i64 a0_6, .string a0_7, .int .i64 a0_8, .int .i64 a0_9, .int .i64 a0_10, .bool a0_11, .string a0_12] 27 (0, 0)) (by (with_reducible repeat (first | refine blk_drewN ?_ _ | refine blk_drew ?_ | refine blk_alloc ?_ _)); exact BK285.out) hb); have n1_ := Aside0.mk (below_step (by repeat (first | (with_reducible first | exact HB.out | apply below_alloc | apply pw_below_drewN | apply below_drew1 | refine below_set ?_ GE285.out) | exact HB.out)) hb); clear BK285; clear HB; have BK285 := n0_; have HB := n1_; clear n0_ n1_; (try clear hb); (try clear hb2); (try clear hk); (try clear hi); obtain ⟨hcz30_0, hcz30_1, hcz30_2, hcz30_3, hcz30_4, hcz30_5, hcz30_6, hcz30_7, hcz30_8, hcz30_9, hcz30_10, hcz30_11, hcz30_12⟩ := cell13 BK285.out; obtain ⟨hfz30_0, hfz30_1, hfz30_2, hfz30_3, hfz30_4, hfz30_5, hfz30_6, hfz30_7, hfz30_8, hfz30_9, hfz30_10, hfz30_11, hfz30_12⟩ := froz13 BK285.out) | ((with_reducible refine gate_callee (f := 12) rfl ?_); refine goesL_ (some 38) rfl rfl Tryd.func12 (by kernel_rfl) rfl #[.agg #[.int .i64 a0_0, .int .i64 a0_1, .int .i64 a0_2, .string a0_3, .string a0_4, .string a0_5, .int .i64 a0_6, .string a0_7, .int .i64 a0_8, .int .i64 a0_9, .int .i64 a0_10, .bool a0_11, .string a0_12]] rfl (by (try simp only [List.map_toArray, List.map_cons, List.map_nil]); first | done | rfl | (simp only [List.length_drop, List.length_take]; rfl)) ?_; (with_reducible refine (gongref23_Encode.calls k a0_0 a0_1 a0_2 a0_3 a0_4 a0_5 a0_6 a0_7 a0_8 a0_9 a0_10 a0_11 a0_12 t294 t295 _ A8.out).mono ?_); rintro e w31 ⟨rfl, hb⟩; refine ⟨_, rfl, ?_⟩; have n0_ := Aside0.mk (blk_below (g := gb285) (o := .cells #[.int .i64 a0_0, .int .i64 a0_1, .int .i64 a0_2, .string a0_3, .string a0_4, .string a0_5, .int .i64 a0_6, .string a0_7, .int .i64 a0_8, .int .i64 a0_9, .int .i64 a0_10, .bool a0_11, .string a0_12] 27 (0, 0)) (by (with_reducible repeat (first | refine blk_drewN ?_ _ | refine blk_drew ?_ | refine blk_alloc ?_ _)); exact BK285.out) hb); have n1_ := Aside0.mk (below_step (by repeat (first | (with_reducible first | exact HB.out | apply below_alloc | apply pw_below_drewN | apply below_drew1 | refine below_set ?_ GE285.out) | exact HB.out)) hb); clear BK285; clear HB; have BK285 := n0_; have HB := n1_; clear n0_ n1_; (try clear hb); (try clear hb2); (try clear hk); (try clear hi)) | ((with_reducible refine gate_callee (f := 13) rfl ?_); refine goesL_ (some 43) rfl rfl Tryd.func13 (by kernel_rfl) rfl #[.int .i64 a1] rfl (by (try simp only [List.map_toArray, List.map_cons, List.map_nil]); first | done | rfl | (simp only [List.length_drop, List.length_take]; rfl)) ?_; (with_reducible refine (ticket_Ack.calls k a1 t296 t297 _ ⟨TabW.now HT.out (by repeat (first | (with_reducible first | exact HB.out | apply below_alloc | apply pw_below_drewN | apply below_drew1 | refine below_set ?_ GE285.out) | exact HB.out))⟩ A9.out).mono ?_); rintro e w32 ⟨rfl, hb⟩; refine ⟨_, rfl, ?_⟩; have n0_ := Aside0.mk (blk_below (g := gb285) (o := .cells #[.int .i64 a0_0, .int .i64 a0_1, .int .i64 a0_2, .string a0_3, .string a0_4, .string a0_5, .int .i64 a0_6, .string a0_7, .int .i64 a0_8, .int .i64 a0_9, .int .i64 a0_10, .bool a0_11, .string a0_12] 27 (0, 0)) (by (with_reducible repeat (first | refine blk_drewN ?_ _ | refine blk_drew ?_ | refine blk_alloc ?_ _)); exact BK285.out) hb); have n1_ := Aside0.mk (below_step (by repeat (first | (with_reducible first | exact HB.out | apply below_alloc | apply pw_below_drewN | apply below_drew1 | refine below_set ?_ GE285.out) | exact HB.out)) hb); clear BK285; clear HB; have BK285 := n0_; have HB := n1_; clear n0_ n1_; (try clear hb); (try clear hb2); (try clear hk); (try clear hi)) | ((with_reducible refine gate_callee (f := 14) rfl ?_); refine goesL_ (some 48) rfl rfl Tryd.func14 (by kernel_rfl) rfl #[.int .i64 a1] rfl (by (try simp only [List.map_toArray, List.map_cons, List.map_nil]); first | done | rfl | (simp only [List.length_drop, List.length_take]; rfl)) ?_; (with_reducible refine (gongref23_Ack.calls k a1 t298 t299 _ A10.out).mono ?_); rintro e w33 ⟨rfl, hb⟩; refine ⟨_, rfl, ?_⟩; have n0_ := Aside0.mk (blk_below (g := gb285) (o := .cells #[.int .i64 a0_0, .int .i64 a0_1, .int .i64 a0_2, .string a0_3, .string a0_4, .string a0_5, .int .i64 a0_6, .string a0_7, .int .i64 a0_8, .int .i64 a0_9, .int .i64 a0_10, .bool a0_11, .string a0_12] 27 (0, 0)) (by (with_reducible repeat (first | refine blk_drewN ?_ _ | refine blk_drew ?_ | refine blk_alloc ?_ _)); exact BK285.out) hb); have n1_ := Aside0.mk (below_step (by repeat (first | (with_reducible first | exact HB.out | apply below_alloc | apply pw_below_drewN | apply below_drew1 | refine below_set ?_ GE285.out) | exact HB.out)) hb); clear BK285; clear HB; have BK285 := n0_; have HB := n1_; clear n0_ n1_; (try clear hb); (try clear hb2); (try clear hk); (try clear hi)))
                  have n0_ := Aside0.mk (blk_drew BK285.out)
                  have n1_ := Aside0.mk (below_drew1 HB.out)
                  clear BK285
                  clear HB
                  have BK285 := n0_
                  have HB := n1_
                  clear n0_ n1_
                  refine start_ (n := 39) (S := fun w' => w'.cell? ⟨gb285, 0, none⟩ = some (.int .i64 a0_0) ∧ w'.cell? ⟨gb285, 1, none⟩ = some (.int .i64 a0_1) ∧ w'.cell? ⟨gb285, 2, none⟩ = some (.int .i64 a0_2) ∧ w'.cell? ⟨gb285, 3, none⟩ = some (.string a0_3) ∧ w'.cell? ⟨gb285, 4, none⟩ = some (.string a0_4) ∧ w'.cell? ⟨gb285, 5, none⟩ = some (.string a0_5) ∧ w'.cell? ⟨gb285, 6, none⟩ = some (.int .i64 a0_6) ∧ w'.cell? ⟨gb285, 7, none⟩ = some (.string a0_7) ∧ w'.cell? ⟨gb285, 8, none⟩ = some (.int .i64 a0_8) ∧ w'.cell? ⟨gb285, 9, none⟩ = some (.int .i64 a0_9) ∧ w'.cell? ⟨gb285, 10, none⟩ = some (.int .i64 a0_10) ∧ w'.cell? ⟨gb285, 11, none⟩ = some (.bool a0_11) ∧ w'.cell? ⟨gb285, 12, none⟩ = some (.string a0_12)) (ds := []) #[false, false, false, false, false, false, false, false, false, false, false, false, false, false, false, false, false, false, false, false, false, false, false, false, false, false, false, false, false, false, false, false, false, false, false, false, false, false, false] (by kernel_rfl) rfl rfl ⟨(blk_cell BK285.out 0).trans rfl, (blk_cell BK285.out 1).trans rfl, (blk_cell BK285.out 2).trans rfl, (blk_cell BK285.out 3).trans rfl, (blk_cell BK285.out 4).trans rfl, (blk_cell BK285.out 5).trans rfl, (blk_cell BK285.out 6).trans rfl, (blk_cell BK285.out 7).trans rfl, (blk_cell BK285.out 8).trans rfl, (blk_cell BK285.out 9).trans rfl, (blk_cell BK285.out 10).trans rfl, (blk_cell BK285.out 11).trans rfl, (blk_cell BK285.out 12).trans rfl⟩ (fun hHeld => ?_); refine with_tabW gonglaw23_TicketWrites.tab9 gonglaw23_TicketWrites.bits9 (fun HT_ HW_ => ?_)
                  generalize w33.drew = w34 at BK285 HB hHeld ⊢
                  refine take_ (i := 0) (N := some 51) (v := ?_) (a' := ?_) #[true, false, false, false, false, false, false, false, false, false, false, false, false, false, false, false, false, false, false, false, false, false, false, false, false, false, false, false, false, false, false, false, false, false, false, false, false, false, false] rfl rfl (take_ofW HT_.out HW_.out (by kernel_rfl)) (fun _ _ _ h => h) (Or.inl ⟨by rfl, ?_⟩) hHeld ?_ ?_
                  rotate_left
                  · rintro w' ⟨s0, s1, s2, s3, s4, s5, s6, s7, s8, s9, s10, s11, s12⟩
                    go_simp
                    with_reducible rfl
                  rotate_left
                  · simp only [Act.put, List.setIfInBounds_toArray, List.set_cons_zero, List.set_cons_succ, i64_w, i32_w]
                    rfl
                  refine take_ (i := 2) (N := some 53) (v := ?_) (a' := ?_) #[true, false, true, false, false, false, false, false, false, false, false, false, false, false, false, false, false, false, false, false, false, false, false, false, false, false, false, false, false, false, false, false, false, false, false, false, false, false, false] rfl rfl (take_ofW HT_.out HW_.out (by kernel_rfl)) (fun _ _ _ h => h) (Or.inl ⟨by rfl, ?_⟩) hHeld ?_ ?_
                  rotate_left
                  · rintro w' ⟨s0, s1, s2, s3, s4, s5, s6, s7, s8, s9, s10, s11, s12⟩
                    go_simp
                    with_reducible rfl
                  rotate_left
                  · simp only [Act.put, List.setIfInBounds_toArray, List.set_cons_zero, List.set_cons_succ, i64_w, i32_w]
                    rfl
                  refine one_ (i := 1) (N := some 52) #[true, true, true, false, false, false, false, false, false, false, false, false, false, false, false, false, false, false, false, false, false, false, false, false, false, false, false, false, false, false, false, false, false, false, false, false, false, false, false] rfl rfl (one_of HT_.out (by kernel_rfl)) (by decide) (fun K hK => ?_)
                  refine goes_ Tryd.func15 (by kernel_rfl) rfl #[.agg #[.int .i64 a0_0, .int .i64 a0_1, .int .i64 a0_2, .string a0_3, .string a0_4, .string a0_5, .int .i64 a0_6, .string a0_7, .int .i64 a0_8, .int .i64 a0_9, .int .i64 a0_10, .bool a0_11, .string a0_12]] (by rfl) rfl rfl (by (try simp only [List.map_toArray, List.map_cons, List.map_nil]); first | done | rfl | (simp only [List.length_drop, List.length_take]; rfl)) ?_
                  with_reducible refine (ticket_Check.calls k a0_0 a0_1 a0_2 a0_3 a0_4 a0_5 a0_6 a0_7 a0_8 a0_9 a0_10 a0_11 a0_12 t300 _ ⟨TabW.now HT.out (by repeat (first | (with_reducible first | exact HB.out | apply below_alloc | apply pw_below_drewN | apply below_drew1 | refine below_set ?_ GE285.out) | exact HB.out))⟩ A11.out).mono ?_
                  rintro e w35 ⟨rfl, hb⟩
                  refine ⟨_, rfl, ?_⟩
                  have n0_ := Aside0.mk (blk_below (g := gb285) (o := .cells #[.int .i64 a0_0, .int .i64 a0_1, .int .i64 a0_2, .string a0_3, .string a0_4, .string a0_5, .int .i64 a0_6, .string a0_7, .int .i64 a0_8, .int .i64 a0_9, .int .i64 a0_10, .bool a0_11, .string a0_12] 27 (0, 0)) (by (with_reducible repeat (first | refine blk_drewN ?_ _ | refine blk_drew ?_ | refine blk_alloc ?_ _)); exact BK285.out) hb)
                  have n1_ := Aside0.mk (below_step (by repeat (first | (with_reducible first | exact HB.out | apply below_alloc | apply pw_below_drewN | apply below_drew1 | refine below_set ?_ GE285.out) | exact HB.out)) hb)
                  clear BK285
                  clear HB
                  have BK285 := n0_
                  have HB := n1_
                  clear n0_ n1_
                  (try clear hb)
                  (try clear hb2)
                  (try clear hk)
                  (try clear hi)
                  refine hK.out _ _ ⟨(blk_cell BK285.out 0).trans rfl, (blk_cell BK285.out 1).trans rfl, (blk_cell BK285.out 2).trans rfl, (blk_cell BK285.out 3).trans rfl, (blk_cell BK285.out 4).trans rfl, (blk_cell BK285.out 5).trans rfl, (blk_cell BK285.out 6).trans rfl, (blk_cell BK285.out 7).trans rfl, (blk_cell BK285.out 8).trans rfl, (blk_cell BK285.out 9).trans rfl, (blk_cell BK285.out 10).trans rfl, (blk_cell BK285.out 11).trans rfl, (blk_cell BK285.out 12).trans rfl⟩ (fun hHeld => ?_)
                  clear hK K
                  refine norm_ (a' := ?_) ?_ ?_
                  rotate_left
                  · show Act.put _ (some 52) _ = _
                    simp only [Act.put, List.setIfInBounds_toArray, List.set_cons_zero, List.set_cons_succ, i64_w, i32_w]
                    rfl
                  refine one_ (i := 3) (N := some 54) #[true, true, true, true, false, false, false, false, false, false, false, false, false, false, false, false, false, false, false, false, false, false, false, false, false, false, false, false, false, false, false, false, false, false, false, false, false, false, false] rfl rfl (one_of HT_.out (by kernel_rfl)) (by decide) (fun K hK => ?_)
                  refine goes_ Tryd.func16 (by kernel_rfl) rfl #[.agg #[.int .i64 a0_0, .int .i64 a0_1, .int .i64 a0_2, .string a0_3, .string a0_4, .string a0_5, .int .i64 a0_6, .string a0_7, .int .i64 a0_8, .int .i64 a0_9, .int .i64 a0_10, .bool a0_11, .string a0_12]] (by rfl) rfl rfl (by (try simp only [List.map_toArray, List.map_cons, List.map_nil]); first | done | rfl | (simp only [List.length_drop, List.length_take]; rfl)) ?_
                  with_reducible refine (gongref23_Check.calls k a0_0 a0_1 a0_2 a0_3 a0_4 a0_5 a0_6 a0_7 a0_8 a0_9 a0_10 a0_11 a0_12 t301 _ A12.out).mono ?_
                  rintro e w36 ⟨rfl, hb⟩
                  refine ⟨_, rfl, ?_⟩
                  have n0_ := Aside0.mk (blk_below (g := gb285) (o := .cells #[.int .i64 a0_0, .int .i64 a0_1, .int .i64 a0_2, .string a0_3, .string a0_4, .string a0_5, .int .i64 a0_6, .string a0_7, .int .i64 a0_8, .int .i64 a0_9, .int .i64 a0_10, .bool a0_11, .string a0_12] 27 (0, 0)) (by (with_reducible repeat (first | refine blk_drewN ?_ _ | refine blk_drew ?_ | refine blk_alloc ?_ _)); exact BK285.out) hb)
                  have n1_ := Aside0.mk (below_step (by repeat (first | (with_reducible first | exact HB.out | apply below_alloc | apply pw_below_drewN | apply below_drew1 | refine below_set ?_ GE285.out) | exact HB.out)) hb)
                  clear BK285
                  clear HB
                  have BK285 := n0_
                  have HB := n1_
                  clear n0_ n1_
                  (try clear hb)
                  (try clear hb2)
                  (try clear hk)
                  (try clear hi)
                  refine hK.out _ _ ⟨(blk_cell BK285.out 0).trans rfl, (blk_cell BK285.out 1).trans rfl, (blk_cell BK285.out 2).trans rfl, (blk_cell BK285.out 3).trans rfl, (blk_cell BK285.out 4).trans rfl, (blk_cell BK285.out 5).trans rfl, (blk_cell BK285.out 6).trans rfl, (blk_cell BK285.out 7).trans rfl, (blk_cell BK285.out 8).trans rfl, (blk_cell BK285.out 9).trans rfl, (blk_cell BK285.out 10).trans rfl, (blk_cell BK285.out 11).trans rfl, (blk_cell BK285.out 12).trans rfl⟩ (fun hHeld => ?_)
                  clear hK K
                  refine norm_ (a' := ?_) ?_ ?_
                  rotate_left
                  · show Act.put _ (some 54) _ = _
                    simp only [Act.put, List.setIfInBounds_toArray, List.set_cons_zero, List.set_cons_succ, i64_w, i32_w]
                    rfl
                  refine pure_ (i := 4) (N := some 55) (v := ?_) (a' := ?_) #[true, true, true, true, true, false, false, false, false, false, false, false, false, false, false, false, false, false, false, false, false, false, false, false, false, false, false, false, false, false, false, false, false, false, false, false, false, false, false] rfl rfl (any_of HT_.out (by kernel_rfl)) (fun _ _ _ h => h) (Or.inl ⟨by rfl, ?_⟩) ?_ ?_
                  rotate_left
                  · intro w'
                    go_simp
                    with_reducible rfl
                  rotate_left
                  · simp only [Act.put, List.setIfInBounds_toArray, List.set_cons_zero, List.set_cons_succ, i64_w, i32_w]
                    rfl
                  refine pure_ (i := 5) (N := some 56) (v := ?_) (a' := ?_) #[true, true, true, true, true, true, false, false, false, false, false, false, false, false, false, false, false, false, false, false, false, false, false, false, false, false, false, false, false, false, false, false, false, false, false, false, false, false, false] rfl rfl (any_of HT_.out (by kernel_rfl)) (fun _ _ _ h => h) (Or.inl ⟨by rfl, ?_⟩) ?_ ?_
                  rotate_left
                  · intro w'
                    go_simp
                    with_reducible rfl
                  rotate_left
                  · simp only [Act.put, List.setIfInBounds_toArray, List.set_cons_zero, List.set_cons_succ, i64_w, i32_w]
                    rfl
                  refine pure_ (i := 6) (N := some 57) (v := ?_) (a' := ?_) #[true, true, true, true, true, true, true, false, false, false, false, false, false, false, false, false, false, false, false, false, false, false, false, false, false, false, false, false, false, false, false, false, false, false, false, false, false, false, false] rfl rfl (any_of HT_.out (by kernel_rfl)) (fun _ _ _ h => h) (Or.inl ⟨by rfl, ?_⟩) ?_ ?_
                  rotate_left
                  · intro w'
                    go_simp
                    with_reducible rfl
                  rotate_left
                  · simp only [Act.put, List.setIfInBounds_toArray, List.set_cons_zero, List.set_cons_succ, i64_w, i32_w]
                    rfl
                  refine pure_ (i := 7) (N := some 58) (v := ?_) (a' := ?_) #[true, true, true, true, true, true, true, true, false, false, false, false, false, false, false, false, false, false, false, false, false, false, false, false, false, false, false, false, false, false, false, false, false, false, false, false, false, false, false] rfl rfl (any_of HT_.out (by kernel_rfl)) (fun _ _ _ h => h) (Or.inl ⟨by rfl, ?_⟩) ?_ ?_
                  rotate_left
                  · intro w'
                    go_simp
                    with_reducible rfl
                  rotate_left
                  · simp only [Act.put, List.setIfInBounds_toArray, List.set_cons_zero, List.set_cons_succ, i64_w, i32_w]
                    rfl
                  refine pure_ (i := 8) (N := some 59) (v := ?_) (a' := ?_) #[true, true, true, true, true, true, true, true, true, false, false, false, false, false, false, false, false, false, false, false, false, false, false, false, false, false, false, false, false, false, false, false, false, false, false, false, false, false, false] rfl rfl (any_of HT_.out (by kernel_rfl)) (fun _ _ _ h => h) (Or.inl ⟨by rfl, ?_⟩) ?_ ?_
                  rotate_left
                  · intro w'
                    go_simp
                    with_reducible rfl
                  rotate_left
                  · simp only [Act.put, List.setIfInBounds_toArray, List.set_cons_zero, List.set_cons_succ, i64_w, i32_w]
                    rfl
                  refine pure_ (i := 9) (N := some 60) (v := ?_) (a' := ?_) #[true, true, true, true, true, true, true, true, true, true, false, false, false, false, false, false, false, false, false, false, false, false, false, false, false, false, false, false, false, false, false, false, false, false, false, false, false, false, false] rfl rfl (any_of HT_.out (by kernel_rfl)) (fun _ _ _ h => h) (Or.inl ⟨by rfl, ?_⟩) ?_ ?_
                  rotate_left
                  · intro w'
                    go_simp
                    with_reducible rfl
                  rotate_left
                  · simp only [Act.put, List.setIfInBounds_toArray, List.set_cons_zero, List.set_cons_succ, i64_w, i32_w]
                    rfl
                  refine pure_ (i := 10) (N := some 61) (v := ?_) (a' := ?_) #[true, true, true, true, true, true, true, true, true, true, true, false, false, false, false, false, false, false, false, false, false, false, false, false, false, false, false, false, false, false, false, false, false, false, false, false, false, false, false] rfl rfl (any_of HT_.out (by kernel_rfl)) (fun _ _ _ h => h) (Or.inl ⟨by rfl, ?_⟩) ?_ ?_
                  rotate_left
                  · intro w'
                    go_simp
                    with_reducible rfl
                  rotate_left
                  · simp only [Act.put, List.setIfInBounds_toArray, List.set_cons_zero, List.set_cons_succ, i64_w, i32_w]
                    rfl
                  refine pure_ (i := 11) (N := some 62) (v := ?_) (a' := ?_) #[true, true, true, true, true, true, true, true, true, true, true, true, false, false, false, false, false, false, false, false, false, false, false, false, false, false, false, false, false, false, false, false, false, false, false, false, false, false, false] rfl rfl (any_of HT_.out (by kernel_rfl)) (fun _ _ _ h => h) (Or.inl ⟨by rfl, ?_⟩) ?_ ?_
                  rotate_left
                  · intro w'
                    go_simp
                    with_reducible rfl
                  rotate_left
                  · simp only [Act.put, List.setIfInBounds_toArray, List.set_cons_zero, List.set_cons_succ, i64_w, i32_w]
                    rfl
                  refine pure_ (i := 12) (N := some 63) (v := ?_) (a' := ?_) #[true, true, true, true, true, true, true, true, true, true, true, true, true, false, false, false, false, false, false, false, false, false, false, false, false, false, false, false, false, false, false, false, false, false, false, false, false, false, false] rfl rfl (any_of HT_.out (by kernel_rfl)) (fun _ _ _ h => h) (Or.inl ⟨by rfl, ?_⟩) ?_ ?_
                  rotate_left
                  · intro w'
                    go_simp
                    with_reducible rfl
                  rotate_left
                  · simp only [Act.put, List.setIfInBounds_toArray, List.set_cons_zero, List.set_cons_succ, i64_w, i32_w]
                    rfl
                  refine pure_ (i := 13) (N := some 64) (v := ?_) (a' := ?_) #[true, true, true, true, true, true, true, true, true, true, true, true, true, true, false, false, false, false, false, false, false, false, false, false, false, false, false, false, false, false, false, false, false, false, false, false, false, false, false] rfl rfl (any_of HT_.out (by kernel_rfl)) (fun _ _ _ h => h) (Or.inl ⟨by rfl, ?_⟩) ?_ ?_
                  rotate_left
                  · intro w'
                    go_simp
                    with_reducible rfl
                  rotate_left
                  · simp only [Act.put, List.setIfInBounds_toArray, List.set_cons_zero, List.set_cons_succ, i64_w, i32_w]
                    rfl
                  refine pure_ (i := 14) (N := some 65) (v := ?_) (a' := ?_) #[true, true, true, true, true, true, true, true, true, true, true, true, true, true, true, false, false, false, false, false, false, false, false, false, false, false, false, false, false, false, false, false, false, false, false, false, false, false, false] rfl rfl (any_of HT_.out (by kernel_rfl)) (fun _ _ _ h => h) (Or.inl ⟨by rfl, ?_⟩) ?_ ?_
                  rotate_left
                  · intro w'
                    go_simp
                    with_reducible rfl
                  rotate_left
                  · simp only [Act.put, List.setIfInBounds_toArray, List.set_cons_zero, List.set_cons_succ, i64_w, i32_w]
                    rfl
                  refine pure_ (i := 15) (N := some 66) (v := ?_) (a' := ?_) #[true, true, true, true, true, true, true, true, true, true, true, true, true, true, true, true, false, false, false, false, false, false, false, false, false, false, false, false, false, false, false, false, false, false, false, false, false, false, false] rfl rfl (any_of HT_.out (by kernel_rfl)) (fun _ _ _ h => h) (Or.inl ⟨by rfl, ?_⟩) ?_ ?_
                  rotate_left
                  · intro w'
                    go_simp
                    with_reducible rfl
                  rotate_left
                  · simp only [Act.put, List.setIfInBounds_toArray, List.set_cons_zero, List.set_cons_succ, i64_w, i32_w]
                    rfl
                  refine pure_ (i := 16) (N := some 67) (v := ?_) (a' := ?_) #[true, true, true, true, true, true, true, true, true, true, true, true, true, true, true, true, true, false, false, false, false, false, false, false, false, false, false, false, false, false, false, false, false, false, false, false, false, false, false] rfl rfl (any_of HT_.out (by kernel_rfl)) (fun _ _ _ h => h) (Or.inl ⟨by rfl, ?_⟩) ?_ ?_
                  rotate_left
                  · intro w'
                    go_simp
                    with_reducible rfl
                  rotate_left
                  · simp only [Act.put, List.setIfInBounds_toArray, List.set_cons_zero, List.set_cons_succ, i64_w, i32_w]
                    rfl
                  refine pure_ (i := 17) (N := some 68) (v := ?_) (a' := ?_) #[true, true, true, true, true, true, true, true, true, true, true, true, true, true, true, true, true, true, false, false, false, false, false, false, false, false, false, false, false, false, false, false, false, false, false, false, false, false, false] rfl rfl (any_of HT_.out (by kernel_rfl)) (fun _ _ _ h => h) (Or.inl ⟨by rfl, ?_⟩) ?_ ?_
                  rotate_left
                  · intro w'
                    go_simp
                    with_reducible rfl
                  rotate_left
                  · simp only [Act.put, List.setIfInBounds_toArray, List.set_cons_zero, List.set_cons_succ, i64_w, i32_w]
                    rfl
                  refine pure_ (i := 18) (N := some 69) (v := ?_) (a' := ?_) #[true, true, true, true, true, true, true, true, true, true, true, true, true, true, true, true, true, true, true, false, false, false, false, false, false, false, false, false, false, false, false, false, false, false, false, false, false, false, false] rfl rfl (any_of HT_.out (by kernel_rfl)) (fun _ _ _ h => h) (Or.inl ⟨by rfl, ?_⟩) ?_ ?_
                  rotate_left
                  · intro w'
                    go_simp
                    with_reducible rfl
                  rotate_left
                  · simp only [Act.put, List.setIfInBounds_toArray, List.set_cons_zero, List.set_cons_succ, i64_w, i32_w]
                    rfl
                  refine pure_ (i := 19) (N := some 70) (v := ?_) (a' := ?_) #[true, true, true, true, true, true, true, true, true, true, true, true, true, true, true, true, true, true, true, true, false, false, false, false, false, false, false, false, false, false, false, false, false, false, false, false, false, false, false] rfl rfl (any_of HT_.out (by kernel_rfl)) (fun _ _ _ h => h) (Or.inl ⟨by rfl, ?_⟩) ?_ ?_
                  rotate_left
                  · intro w'
                    go_simp
                    with_reducible rfl
                  rotate_left
                  · simp only [Act.put, List.setIfInBounds_toArray, List.set_cons_zero, List.set_cons_succ, i64_w, i32_w]
                    rfl
                  refine pure_ (i := 20) (N := some 71) (v := ?_) (a' := ?_) #[true, true, true, true, true, true, true, true, true, true, true, true, true, true, true, true, true, true, true, true, true, false, false, false, false, false, false, false, false, false, false, false, false, false, false, false, false, false, false] rfl rfl (any_of HT_.out (by kernel_rfl)) (fun _ _ _ h => h) (Or.inl ⟨by rfl, ?_⟩) ?_ ?_
                  rotate_left
                  · intro w'
                    go_simp
                    with_reducible rfl
                  rotate_left
                  · simp only [Act.put, List.setIfInBounds_toArray, List.set_cons_zero, List.set_cons_succ, i64_w, i32_w]
                    rfl
                  refine pure_ (i := 21) (N := some 72) (v := ?_) (a' := ?_) #[true, true, true, true, true, true, true, true, true, true, true, true, true, true, true, true, true, true, true, true, true, true, false, false, false, false, false, false, false, false, false, false, false, false, false, false, false, false, false] rfl rfl (any_of HT_.out (by kernel_rfl)) (fun _ _ _ h => h) (Or.inl ⟨by rfl, ?_⟩) ?_ ?_
                  rotate_left
                  · intro w'
                    go_simp
                    with_reducible rfl
                  rotate_left
                  · simp only [Act.put, List.setIfInBounds_toArray, List.set_cons_zero, List.set_cons_succ, i64_w, i32_w]
                    rfl
                  refine pure_ (i := 22) (N := some 73) (v := ?_) (a' := ?_) #[true, true, true, true, true, true, true, true, true, true, true, true, true, true, true, true, true, true, true, true, true, true, true, false, false, false, false, false, false, false, false, false, false, false, false, false, false, false, false] rfl rfl (any_of HT_.out (by kernel_rfl)) (fun _ _ _ h => h) (Or.inl ⟨by rfl, ?_⟩) ?_ ?_
                  rotate_left
                  · intro w'
                    go_simp
                    with_reducible rfl
                  rotate_left
                  · simp only [Act.put, List.setIfInBounds_toArray, List.set_cons_zero, List.set_cons_succ, i64_w, i32_w]
                    rfl
                  refine pure_ (i := 23) (N := some 74) (v := ?_) (a' := ?_) #[true, true, true, true, true, true, true, true, true, true, true, true, true, true, true, true, true, true, true, true, true, true, true, true, false, false, false, false, false, false, false, false, false, false, false, false, false, false, false] rfl rfl (any_of HT_.out (by kernel_rfl)) (fun _ _ _ h => h) (Or.inl ⟨by rfl, ?_⟩) ?_ ?_
                  rotate_left
                  · intro w'
                    go_simp
                    with_reducible rfl
                  rotate_left
                  · simp only [Act.put, List.setIfInBounds_toArray, List.set_cons_zero, List.set_cons_succ, i64_w, i32_w]
                    rfl
                  refine pure_ (i := 24) (N := some 75) (v := ?_) (a' := ?_) #[true, true, true, true, true, true, true, true, true, true, true, true, true, true, true, true, true, true, true, true, true, true, true, true, true, false, false, false, false, false, false, false, false, false, false, false, false, false, false] rfl rfl (any_of HT_.out (by kernel_rfl)) (fun _ _ _ h => h) (Or.inl ⟨by rfl, ?_⟩) ?_ ?_
                  rotate_left
                  · intro w'
                    go_simp
                    with_reducible rfl
                  rotate_left
                  · simp only [Act.put, List.setIfInBounds_toArray, List.set_cons_zero, List.set_cons_succ, i64_w, i32_w]
                    rfl
                  refine pure_ (i := 25) (N := some 76) (v := ?_) (a' := ?_) #[true, true, true, true, true, true, true, true, true, true, true, true, true, true, true, true, true, true, true, true, true, true, true, true, true, true, false, false, false, false, false, false, false, false, false, false, false, false, false] rfl rfl (any_of HT_.out (by kernel_rfl)) (fun _ _ _ h => h) (Or.inl ⟨by rfl, ?_⟩) ?_ ?_
                  rotate_left
                  · intro w'
                    go_simp
                    with_reducible rfl
                  rotate_left
                  · simp only [Act.put, List.setIfInBounds_toArray, List.set_cons_zero, List.set_cons_succ, i64_w, i32_w]
                    rfl
                  refine pure_ (i := 26) (N := some 77) (v := ?_) (a' := ?_) #[true, true, true, true, true, true, true, true, true, true, true, true, true, true, true, true, true, true, true, true, true, true, true, true, true, true, true, false, false, false, false, false, false, false, false, false, false, false, false] rfl rfl (any_of HT_.out (by kernel_rfl)) (fun _ _ _ h => h) (Or.inl ⟨by rfl, ?_⟩) ?_ ?_
                  rotate_left
                  · intro w'
                    go_simp
                    with_reducible rfl
                  rotate_left
                  · simp only [Act.put, List.setIfInBounds_toArray, List.set_cons_zero, List.set_cons_succ, i64_w, i32_w]
                    rfl
                  refine pure_ (i := 27) (N := some 78) (v := ?_) (a' := ?_) #[true, true, true, true, true, true, true, true, true, true, true, true, true, true, true, true, true, true, true, true, true, true, true, true, true, true, true, true, false, false, false, false, false, false, false, false, false, false, false] rfl rfl (any_of HT_.out (by kernel_rfl)) (fun _ _ _ h => h) (Or.inl ⟨by rfl, ?_⟩) ?_ ?_
                  rotate_left
                  · intro w'
                    go_simp
                    with_reducible rfl
                  rotate_left
                  · simp only [Act.put, List.setIfInBounds_toArray, List.set_cons_zero, List.set_cons_succ, i64_w, i32_w]
                    rfl
                  refine pure_ (i := 28) (N := some 79) (v := ?_) (a' := ?_) #[true, true, true, true, true, true, true, true, true, true, true, true, true, true, true, true, true, true, true, true, true, true, true, true, true, true, true, true, true, false, false, false, false, false, false, false, false, false, false] rfl rfl (any_of HT_.out (by kernel_rfl)) (fun _ _ _ h => h) (Or.inl ⟨by rfl, ?_⟩) ?_ ?_
                  rotate_left
                  · intro w'
                    go_simp
                    with_reducible rfl
                  rotate_left
                  · simp only [Act.put, List.setIfInBounds_toArray, List.set_cons_zero, List.set_cons_succ, i64_w, i32_w]
                    rfl
                  refine pure_ (i := 29) (N := some 80) (v := ?_) (a' := ?_) #[true, true, true, true, true, true, true, true, true, true, true, true, true, true, true, true, true, true, true, true, true, true, true, true, true, true, true, true, true, true, false, false, false, false, false, false, false, false, false] rfl rfl (any_of HT_.out (by kernel_rfl)) (fun _ _ _ h => h) (Or.inl ⟨by rfl, ?_⟩) ?_ ?_
                  rotate_left
                  · intro w'
                    go_simp
                    with_reducible rfl
                  rotate_left
                  · simp only [Act.put, List.setIfInBounds_toArray, List.set_cons_zero, List.set_cons_succ, i64_w, i32_w]
                    rfl
                  refine pure_ (i := 30) (N := some 81) (v := ?_) (a' := ?_) #[true, true, true, true, true, true, true, true, true, true, true, true, true, true, true, true, true, true, true, true, true, true, true, true, true, true, true, true, true, true, true, false, false, false, false, false, false, false, false] rfl rfl (any_of HT_.out (by kernel_rfl)) (fun _ _ _ h => h) (Or.inl ⟨by rfl, ?_⟩) ?_ ?_
                  rotate_left
                  · intro w'
                    go_simp
                    with_reducible rfl
                  rotate_left
                  · simp only [Act.put, List.setIfInBounds_toArray, List.set_cons_zero, List.set_cons_succ, i64_w, i32_w]
                    rfl
                  refine pure_ (i := 31) (N := some 82) (v := ?_) (a' := ?_) #[true, true, true, true, true, true, true, true, true, true, true, true, true, true, true, true, true, true, true, true, true, true, true, true, true, true, true, true, true, true, true, true, false, false, false, false, false, false, false] rfl rfl (any_of HT_.out (by kernel_rfl)) (fun _ _ _ h => h) (Or.inl ⟨by rfl, ?_⟩) ?_ ?_
                  rotate_left
                  · intro w'
                    go_simp
                    with_reducible rfl
                  rotate_left
                  · simp only [Act.put, List.setIfInBounds_toArray, List.set_cons_zero, List.set_cons_succ, i64_w, i32_w]
                    rfl
                  refine pure_ (i := 32) (N := some 83) (v := ?_) (a' := ?_) #[true, true, true, true, true, true, true, true, true, true, true, true, true, true, true, true, true, true, true, true, true, true, true, true, true, true, true, true, true, true, true, true, true, false, false, false, false, false, false] rfl rfl (any_of HT_.out (by kernel_rfl)) (fun _ _ _ h => h) (Or.inl ⟨by rfl, ?_⟩) ?_ ?_
                  rotate_left
                  · intro w'
                    go_simp
                    with_reducible rfl
                  rotate_left
                  · simp only [Act.put, List.setIfInBounds_toArray, List.set_cons_zero, List.set_cons_succ, i64_w, i32_w]
                    rfl
                  refine pure_ (i := 33) (N := some 84) (v := ?_) (a' := ?_) #[true, true, true, true, true, true, true, true, true, true, true, true, true, true, true, true, true, true, true, true, true, true, true, true, true, true, true, true, true, true, true, true, true, true, false, false, false, false, false] rfl rfl (any_of HT_.out (by kernel_rfl)) (fun _ _ _ h => h) (Or.inl ⟨by rfl, ?_⟩) ?_ ?_
                  rotate_left
                  · intro w'
                    go_simp
                    with_reducible rfl
                  rotate_left
                  · simp only [Act.put, List.setIfInBounds_toArray, List.set_cons_zero, List.set_cons_succ, i64_w, i32_w]
                    rfl
                  refine pure_ (i := 34) (N := some 85) (v := ?_) (a' := ?_) #[true, true, true, true, true, true, true, true, true, true, true, true, true, true, true, true, true, true, true, true, true, true, true, true, true, true, true, true, true, true, true, true, true, true, true, false, false, false, false] rfl rfl (any_of HT_.out (by kernel_rfl)) (fun _ _ _ h => h) (Or.inl ⟨by rfl, ?_⟩) ?_ ?_
                  rotate_left
                  · intro w'
                    go_simp
                    with_reducible rfl
                  rotate_left
                  · simp only [Act.put, List.setIfInBounds_toArray, List.set_cons_zero, List.set_cons_succ, i64_w, i32_w]
                    rfl
                  refine pure_ (i := 35) (N := some 86) (v := ?_) (a' := ?_) #[true, true, true, true, true, true, true, true, true, true, true, true, true, true, true, true, true, true, true, true, true, true, true, true, true, true, true, true, true, true, true, true, true, true, true, true, false, false, false] rfl rfl (any_of HT_.out (by kernel_rfl)) (fun _ _ _ h => h) (Or.inl ⟨by rfl, ?_⟩) ?_ ?_
                  rotate_left
                  · intro w'
                    go_simp
                    with_reducible rfl
                  rotate_left
                  · simp only [Act.put, List.setIfInBounds_toArray, List.set_cons_zero, List.set_cons_succ, i64_w, i32_w]
                    rfl
                  refine one_ (i := 36) (N := some 87) #[true, true, true, true, true, true, true, true, true, true, true, true, true, true, true, true, true, true, true, true, true, true, true, true, true, true, true, true, true, true, true, true, true, true, true, true, true, false, false] rfl rfl (one_of HT_.out (by kernel_rfl)) (by decide) (fun K hK => ?_)
                  refine goes_ Tryd.func8 (by kernel_rfl) rfl #[] (by rfl) rfl rfl (by (try simp only [List.map_toArray, List.map_cons, List.map_nil]); first | done | rfl | (simp only [List.length_drop, List.length_take]; rfl)) ?_
                  with_reducible refine (gonglaw23_works.calls k  t302 _ ⟨TabW.now HT.out (by repeat (first | (with_reducible first | exact HB.out | apply below_alloc | apply pw_below_drewN | apply below_drew1 | refine below_set ?_ GE285.out) | exact HB.out))⟩ A20.out).mono ?_
                  rintro e w37 ⟨rfl, hb⟩
                  refine ⟨_, rfl, ?_⟩
                  have n0_ := Aside0.mk (blk_below (g := gb285) (o := .cells #[.int .i64 a0_0, .int .i64 a0_1, .int .i64 a0_2, .string a0_3, .string a0_4, .string a0_5, .int .i64 a0_6, .string a0_7, .int .i64 a0_8, .int .i64 a0_9, .int .i64 a0_10, .bool a0_11, .string a0_12] 27 (0, 0)) (by (with_reducible repeat (first | refine blk_drewN ?_ _ | refine blk_drew ?_ | refine blk_alloc ?_ _)); exact BK285.out) hb)
                  have n1_ := Aside0.mk (below_step (by repeat (first | (with_reducible first | exact HB.out | apply below_alloc | apply pw_below_drewN | apply below_drew1 | refine below_set ?_ GE285.out) | exact HB.out)) hb)
                  clear BK285
                  clear HB
                  have BK285 := n0_
                  have HB := n1_
                  clear n0_ n1_
                  (try clear hb)
                  (try clear hb2)
                  (try clear hk)
                  (try clear hi)
                  refine hK.out _ _ ⟨(blk_cell BK285.out 0).trans rfl, (blk_cell BK285.out 1).trans rfl, (blk_cell BK285.out 2).trans rfl, (blk_cell BK285.out 3).trans rfl, (blk_cell BK285.out 4).trans rfl, (blk_cell BK285.out 5).trans rfl, (blk_cell BK285.out 6).trans rfl, (blk_cell BK285.out 7).trans rfl, (blk_cell BK285.out 8).trans rfl, (blk_cell BK285.out 9).trans rfl, (blk_cell BK285.out 10).trans rfl, (blk_cell BK285.out 11).trans rfl, (blk_cell BK285.out 12).trans rfl⟩ (fun hHeld => ?_)
                  clear hK K
                  refine norm_ (a' := ?_) ?_ ?_
                  rotate_left
                  · show Act.put _ (some 87) _ = _
                    simp only [Act.put, List.setIfInBounds_toArray, List.set_cons_zero, List.set_cons_succ, i64_w, i32_w]
                    rfl
                  refine pure_ (i := 37) (N := some 88) (v := ?_) (a' := ?_) #[true, true, true, true, true, true, true, true, true, true, true, true, true, true, true, true, true, true, true, true, true, true, true, true, true, true, true, true, true, true, true, true, true, true, true, true, true, true, false] rfl rfl (any_of HT_.out (by kernel_rfl)) (fun _ _ _ h => h) (Or.inl ⟨by rfl, ?_⟩) ?_ ?_
                  rotate_left
                  · intro w'
                    go_simp
                    with_reducible rfl
                  rotate_left
                  · simp only [Act.put, List.setIfInBounds_toArray, List.set_cons_zero, List.set_cons_succ, i64_w, i32_w]
                    rfl
                  refine pure_ (i := 38) (N := some 4) (v := ?_) (a' := ?_) #[true, true, true, true, true, true, true, true, true, true, true, true, true, true, true, true, true, true, true, true, true, true, true, true, true, true, true, true, true, true, true, true, true, true, true, true, true, true, true] rfl rfl (any_of HT_.out (by kernel_rfl)) (fun _ _ _ h => h) (Or.inl ⟨by rfl, ?_⟩) ?_ ?_
                  rotate_left
                  · intro w'
                    go_simp
                    with_reducible rfl
                  rotate_left
                  · simp only [Act.put, List.setIfInBounds_toArray, List.set_cons_zero, List.set_cons_succ, i64_w, i32_w]
                    rfl
                  refine done_ (done_of HT_.out (by kernel_rfl)) ?_
                  try go_wp2
                  go_ret
                  exact ⟨by first | rfl | (simp [errW_none, errW_some] <;> rfl) | (simp [*, errW_none, errW_some] <;> rfl), by repeat (first | (with_reducible first | exact HB.out | apply below_alloc | apply pw_below_drewN | apply below_drew1 | refine below_set ?_ GE285.out) | exact HB.out)⟩
                · rw [if_neg c19] at H
                  exact absurd (Option.some.inj H) (by rw [hr_]; decide)
              · rw [if_neg c18] at H
                exact absurd (Option.some.inj H) (by rw [hr_]; decide)
            · rw [if_neg c17] at H
              exact absurd (Option.some.inj H) (by rw [hr_]; decide)
          · rw [if_neg c16] at H
            exact absurd (Option.some.inj H) (by rw [hr_]; decide)
        · rw [if_neg c15] at H
          exact absurd (Option.some.inj H) (by rw [hr_]; decide)
      · rw [if_neg c14] at H
        exact absurd (Option.some.inj H) (by rw [hr_]; decide)
    · rw [if_neg c13] at H
      exact absurd (Option.some.inj H) (by rw [hr_]; decide)
  · replace c4 := Bool.eq_false_iff.mpr c4
    subst c4
    have H1 : ((gonglaw23_works.f k).bind fun t287 => (some t287)) = some r := by rw [if_neg (show ¬ (false = true) by decide)] at H; exact H
    clear H
    have H := H1
    clear H1
    replace H := Option.bind_eq_some_iff.mp H
    obtain ⟨t287, A1500, H⟩ := H
    replace H : (some t287) = some r := H
    have A150 := Aside0.mk A1500
    clear A1500
    obtain rfl := Option.some.inj H
    go_enter Tryd.func3, Tryd.ntmps3
    go_wp2_with (first | ((with_reducible refine gate_dst (N := 2) rfl ?_); refine box_event ?hg (N := 2) ?hd (cs := #[.int .i64 a0_0, .int .i64 a0_1, .int .i64 a0_2, .string a0_3, .string a0_4, .string a0_5, .int .i64 a0_6, .string a0_7, .int .i64 a0_8, .int .i64 a0_9, .int .i64 a0_10, .bool a0_11, .string a0_12]) (t := 27) ?hr ?_; (case hd => rfl); (case hg => rfl); (case hr => first | (go_simp; done) | (go_simp; rfl)); intro gb285 hg w151 hbox hb; have n0_ := Aside0.mk (below_step (by repeat (first | (with_reducible first | exact HB.out | apply below_alloc | apply pw_below_drewN | apply below_drew1) | exact HB.out)) hb); have n1_ := Aside0.mk (hbox); have n2_ := Aside0.mk ((by rw [hg]; exact (below_size (by repeat (first | (with_reducible first | exact HB.out | apply below_alloc | apply pw_below_drewN | apply below_drew1) | exact HB.out))) : w.heap.size ≤ gb285)); have n3_ := Aside0.mk ((by rw [hg]; exact (below_size (by repeat (first | (with_reducible first | exact HB.out | apply below_alloc | apply pw_below_drewN | apply below_drew1) | exact HB.out))) : w.heap.size ≤ gb285)); clear HB; have HB := n0_; have BK285 := n1_; have GW285 := n2_; have GE285 := n3_; clear n0_ n1_ n2_ n3_; clear hb hbox hg; obtain ⟨hcz152_0, hcz152_1, hcz152_2, hcz152_3, hcz152_4, hcz152_5, hcz152_6, hcz152_7, hcz152_8, hcz152_9, hcz152_10, hcz152_11, hcz152_12⟩ := cell13 BK285.out; obtain ⟨hfz152_0, hfz152_1, hfz152_2, hfz152_3, hfz152_4, hfz152_5, hfz152_6, hfz152_7, hfz152_8, hfz152_9, hfz152_10, hfz152_11, hfz152_12⟩ := froz13 BK285.out) | ((with_reducible refine gate_callee (f := 7) rfl ?_); refine goesL_ (some 18) rfl rfl Tryd.func7 (by kernel_rfl) rfl #[.agg #[.int .i64 a0_0, .int .i64 a0_1, .int .i64 a0_2, .string a0_3, .string a0_4, .string a0_5, .int .i64 a0_6, .string a0_7, .int .i64 a0_8, .int .i64 a0_9, .int .i64 a0_10, .bool a0_11, .string a0_12]] rfl (by (try simp only [List.map_toArray, List.map_cons, List.map_nil]); first | done | rfl | (simp only [List.length_drop, List.length_take]; rfl)) ?_; (with_reducible refine (gonglaw23_short.calls a0_0 a0_1 a0_2 a0_3 a0_4 a0_5 a0_6 a0_7 a0_8 a0_9 a0_10 a0_11 a0_12 false _ A3.out).mono ?_); rintro e w153 ⟨rfl, hb⟩; refine ⟨_, rfl, ?_⟩; have n0_ := Aside0.mk (blk_below (g := gb285) (o := .cells #[.int .i64 a0_0, .int .i64 a0_1, .int .i64 a0_2, .string a0_3, .string a0_4, .string a0_5, .int .i64 a0_6, .string a0_7, .int .i64 a0_8, .int .i64 a0_9, .int .i64 a0_10, .bool a0_11, .string a0_12] 27 (0, 0)) (by (with_reducible repeat (first | refine blk_drewN ?_ _ | refine blk_drew ?_ | refine blk_alloc ?_ _)); exact BK285.out) hb); have n1_ := Aside0.mk (below_step (by repeat (first | (with_reducible first | exact HB.out | apply below_alloc | apply pw_below_drewN | apply below_drew1 | refine below_set ?_ GE285.out) | exact HB.out)) hb); clear BK285; clear HB; have BK285 := n0_; have HB := n1_; clear n0_ n1_; (try clear hb); (try clear hb2); (try clear hk); (try clear hi)) | ((with_reducible refine gate_callee (f := 8) rfl ?_); refine goesL_ (some 20) rfl rfl Tryd.func8 (by kernel_rfl) rfl #[] rfl (by (try simp only [List.map_toArray, List.map_cons, List.map_nil]); first | done | rfl | (simp only [List.length_drop, List.length_take]; rfl)) ?_; (with_reducible refine (gonglaw23_works.calls k  t287 _ ⟨TabW.now HT.out (by repeat (first | (with_reducible first | exact HB.out | apply below_alloc | apply pw_below_drewN | apply below_drew1 | refine below_set ?_ GE285.out) | exact HB.out))⟩ A150.out).mono ?_); rintro e w154 ⟨rfl, hb⟩; refine ⟨_, rfl, ?_⟩; have n0_ := Aside0.mk (blk_below (g := gb285) (o := .cells #[.int .i64 a0_0, .int .i64 a0_1, .int .i64 a0_2, .string a0_3, .string a0_4, .string a0_5, .int .i64 a0_6, .string a0_7, .int .i64 a0_8, .int .i64 a0_9, .int .i64 a0_10, .bool a0_11, .string a0_12] 27 (0, 0)) (by (with_reducible repeat (first | refine blk_drewN ?_ _ | refine blk_drew ?_ | refine blk_alloc ?_ _)); exact BK285.out) hb); have n1_ := Aside0.mk (below_step (by repeat (first | (with_reducible first | exact HB.out | apply below_alloc | apply pw_below_drewN | apply below_drew1 | refine below_set ?_ GE285.out) | exact HB.out)) hb); clear BK285; clear HB; have BK285 := n0_; have HB := n1_; clear n0_ n1_; (try clear hb); (try clear hb2); (try clear hk); (try clear hi)))
    go_ret
    exact ⟨by first | rfl | (simp [errW_none, errW_some] <;> rfl) | (simp [*, errW_none, errW_some] <;> rfl), by repeat (first | (with_reducible first | exact HB.out | apply below_alloc | apply pw_below_drewN | apply below_drew1 | refine below_set ?_ GE285.out) | exact HB.out)⟩
end Go.Proofs.YtipenplplmdclaaDoor.Px
end
section
namespace Go.Proofs.YtipenplplmdclaaDoor.Px
open Go Go.RowKit Go.Proofs.YtipenplplmdclaaDoorW.PrintWords
structure S23 where
  f0 : ByteArray
  f1 : ByteArray
  f2 : ByteArray
  f3 : Int
  f4 : ByteArray
structure S25 where
  f0 : Int
  f1 : S23
  f2 : Int
  f3 : Int
  f4 : Int
  f5 : Bool
  f6 : ByteArray
structure S27 where
  f0 : Int
  f1 : Int
  f2 : S25
def k23 : Kd S23 := Kd.iso (Kd.pair Kd.string (Kd.pair Kd.string (Kd.pair Kd.string (Kd.pair (Kd.int .i64) Kd.string)))) (fun x => (x.f0, x.f1, x.f2, x.f3, x.f4))
def k25 : Kd S25 := Kd.iso (Kd.pair (Kd.int .i64) (Kd.pair k23 (Kd.pair (Kd.int .i64) (Kd.pair (Kd.int .i64) (Kd.pair (Kd.int .i64) (Kd.pair Kd.bool Kd.string)))))) (fun x => (x.f0, x.f1, x.f2, x.f3, x.f4, x.f5, x.f6))
def k27 : Kd S27 := Kd.iso (Kd.pair (Kd.int .i64) (Kd.pair (Kd.int .i64) k25)) (fun x => (x.f0, x.f1, x.f2))
abbrev TkC (x : S27) : Array Value := #[.int .i64 x.f0, .int .i64 x.f1, .int .i64 x.f2.f0, .string x.f2.f1.f0, .string x.f2.f1.f1, .string x.f2.f1.f2, .int .i64 x.f2.f1.f3, .string x.f2.f1.f4, .int .i64 x.f2.f2, .int .i64 x.f2.f3, .int .i64 x.f2.f4, .bool x.f2.f5, .string x.f2.f6]
theorem tk_event {w : World} {x : S23} {cs : List Value} (h : k23.K w x cs) : cs = [.string x.f0, .string x.f1, .string x.f2, .int .i64 x.f3, .string x.f4] := by
  obtain ⟨a0, r0, he0, h0, r1, s1, he1, h1, r2, s2, he2, h2, r3, s3, he3, h3, h4⟩ := h
  have e0 : a0 = [.string x.f0] := h0
  have e1 : r1 = [.string x.f1] := h1
  have e2 : r2 = [.string x.f2] := h2
  have e3 : r3 = [.int .i64 x.f3] := h3
  have e4 : s3 = [.string x.f4] := h4
  rw [he0, he1, he2, he3, e0, e1, e2, e3, e4]
  rfl
theorem tk_row {w : World} {x : S25} {cs : List Value} (h : k25.K w x cs) : cs = [.int .i64 x.f0, .string x.f1.f0, .string x.f1.f1, .string x.f1.f2, .int .i64 x.f1.f3, .string x.f1.f4, .int .i64 x.f2, .int .i64 x.f3, .int .i64 x.f4, .bool x.f5, .string x.f6] := by
  obtain ⟨a0, r0, he0, h0, r1, s1, he1, h1, r2, s2, he2, h2, r3, s3, he3, h3, r4, s4, he4, h4, r5, s5, he5, h5, h6⟩ := h
  have e0 : a0 = [.int .i64 x.f0] := h0
  have e1 := tk_event h1
  have e2 : r2 = [.int .i64 x.f2] := h2
  have e3 : r3 = [.int .i64 x.f3] := h3
  have e4 : r4 = [.int .i64 x.f4] := h4
  have e5 : r5 = [.bool x.f5] := h5
  have e6 : s5 = [.string x.f6] := h6
  rw [he0, he1, he2, he3, he4, he5, e0, e1, e2, e3, e4, e5, e6]
  rfl
theorem tk_cells {w : World} {x : S27} {cs : Array Value} (h : k27.K w x cs.toList) : cs = TkC x := by
  obtain ⟨a0, r0, he0, h0, r1, s1, he1, h1, h2⟩ := h
  have e0 : a0 = [.int .i64 x.f0] := h0
  have e1 : r1 = [.int .i64 x.f1] := h1
  have e2 := tk_row h2
  apply Array.ext'
  rw [he0, he1, e0, e1, e2]
  rfl
end Go.Proofs.YtipenplplmdclaaDoor.Px
end
section
namespace Go.Proofs.YtipenplplmdclaaDoor.Str
open Go Go.Proofs.YtipenplplmdclaaDoorW.PrintWords
theorem ext {s t : ByteArray} (h : s.data.toList = t.data.toList) : s = t := by
  cases s; cases t
  simp only at h
  congr
  exact Array.ext' h
theorem size_L (s : ByteArray) : s.size = s.data.toList.length := by simp
theorem toList_L (s : ByteArray) : s.toList = s.data.toList := ByteArray.toList_eq s
theorem app_L (s t : ByteArray) : (s ++ t).data.toList = s.data.toList ++ t.data.toList := by simp
theorem extract_L (s : ByteArray) (a b : Nat) : (s.extract a b).data.toList = (s.data.toList.take b).drop a := by
  simp [List.drop_take]
theorem pre_L (s : ByteArray) (b : Nat) : (s.extract 0 b).data.toList = s.data.toList.take b := by rw [extract_L]; simp
theorem post_L (s : ByteArray) (a : Nat) : (s.extract a s.size).data.toList = s.data.toList.drop a := by
  rw [extract_L, List.take_of_length_le (by simp)]
theorem nums_L (xs : List Int) : (strOfNums xs).data.toList = xs.map fun n => UInt8.ofNat n.toNat := strOfNums_data xs
theorem nums_size (xs : List Int) : (strOfNums xs).size = xs.length := strOfNums_size xs
def ofL (l : List UInt8) : ByteArray := ⟨l.toArray⟩
@[simp] theorem ofL_L (l : List UInt8) : (ofL l).data.toList = l := rfl
@[simp] theorem ofL_size (l : List UInt8) : (ofL l).size = l.length := by simp [size_L]
theorem ofL_of (s : ByteArray) : ofL s.data.toList = s := ext rfl
theorem bt_L {s : ByteArray} {i : Nat} (h : i < s.size) : bt s (i : Int) = ((s.data.toList.getD i 0).toNat : Int) := by
  unfold bt
  rw [dif_pos (by simpa using h)]
  simp [List.getD, h]
  rfl
theorem wrap64_id {x : Int} (h0 : -9223372036854775808 ≤ x) (h1 : x < 9223372036854775808) : Go.RowKit.wrap64 x = x := by
  unfold Go.RowKit.wrap64
  omega
theorem wf_i64 {x : Int} (h : (Lit.int .i64 x).wf = true) : -9223372036854775808 ≤ x ∧ x ≤ 9223372036854775807 := by
  have e1 : IntKind.i64.min = -9223372036854775808 := rfl
  have e2 : IntKind.i64.max = 9223372036854775807 := rfl
  simp [Lit.wf, e1, e2] at h
  omega
theorem u8_nat (b : UInt8) : UInt8.ofNat ((b.toNat : Int)).toNat = b := by
  apply UInt8.toNat_inj.1
  have := b.toNat_lt
  simp
theorem map_u8 (l : List UInt8) : (l.map fun b => (b.toNat : Int)).map (fun n => UInt8.ofNat n.toNat) = l := by
  rw [List.map_map]
  conv => rhs; rw [← List.map_id l]
  apply List.map_congr_left
  intro b _
  exact u8_nat b
end Go.Proofs.YtipenplplmdclaaDoor.Str
end
section
namespace Go.Proofs.YtipenplplmdclaaDoor.Utf
open Go
def isC (c : Nat) : Prop := c ≤ 1114111 ∧ (c < 55296 ∨ 57343 < c)
instance (c : Nat) : Decidable (isC c) := by unfold isC; infer_instance
def encN (c : Nat) : List Nat :=
  if c < 128 then [c] else if c < 2048 then [192 + c / 64, 128 + c % 64]
  else if c < 65536 then [224 + c / 4096, 128 + c / 64 % 64, 128 + c % 64]
  else [240 + c / 262144, 128 + c / 4096 % 64, 128 + c / 64 % 64, 128 + c % 64]
def enc (c : Nat) : List UInt8 := (encN c).map UInt8.ofNat
def decN : List Nat → Option (Nat × Nat)
  | [] => none
  | a :: l =>
    if a < 128 then some (a, 1)
    else if a / 32 = 6 then (match l with
      | b :: _ => if b / 64 = 2 ∧ 128 ≤ a % 32 * 64 + b % 64 then some (a % 32 * 64 + b % 64, 2) else none
      | _ => none)
    else if a / 16 = 14 then (match l with
      | b :: c :: _ => if b / 64 = 2 ∧ c / 64 = 2 ∧ 2048 ≤ (a % 16 * 64 + b % 64) * 64 + c % 64 ∧ isC ((a % 16 * 64 + b % 64) * 64 + c % 64) then some ((a % 16 * 64 + b % 64) * 64 + c % 64, 3) else none
      | _ => none)
    else if a / 8 = 30 then (match l with
      | b :: c :: d :: _ => if b / 64 = 2 ∧ c / 64 = 2 ∧ d / 64 = 2 ∧ 65536 ≤ ((a % 8 * 64 + b % 64) * 64 + c % 64) * 64 + d % 64 ∧ isC (((a % 8 * 64 + b % 64) * 64 + c % 64) * 64 + d % 64) then some (((a % 8 * 64 + b % 64) * 64 + c % 64) * 64 + d % 64, 4) else none
      | _ => none)
    else none
def nat (l : List UInt8) : List Nat := l.map UInt8.toNat
def dec (l : List UInt8) : Option (Nat × Nat) := decN (nat l)
theorem nat_ofNat (l : List Nat) (h : ∀ x ∈ l, x < 256) : nat (l.map UInt8.ofNat) = l := by
  unfold nat
  rw [List.map_map]
  conv => rhs; rw [← List.map_id l]
  apply List.map_congr_left
  intro x hx
  have := h x hx
  simp
  omega
theorem encN_small (c : Nat) (h : isC c) : ∀ x ∈ encN c, x < 256 := by
  unfold isC at h
  unfold encN
  intro x hx
  split at hx
  · simp at hx; omega
  · split at hx
    · simp at hx; omega
    · split at hx
      · simp at hx; omega
      · simp at hx; omega
theorem nat_enc (c : Nat) (h : isC c) : nat (enc c) = encN c := nat_ofNat _ (encN_small c h)
theorem enc_length (c : Nat) : (enc c).length = (encN c).length := by simp [enc]
theorem encN_length (c : Nat) : 1 ≤ (encN c).length ∧ (encN c).length ≤ 4 := by
  unfold encN
  split
  · simp
  · split
    · simp
    · split <;> simp
theorem enc_len (c : Nat) : 1 ≤ (enc c).length ∧ (enc c).length ≤ 4 := by rw [enc_length]; exact encN_length c
theorem decN_enc (c : Nat) (h : isC c) (r : List Nat) : decN (encN c ++ r) = some (c, (encN c).length) := by
  have h' := h
  unfold isC at h'
  unfold encN
  by_cases h1 : c < 128
  · rw [if_pos h1]
    simp only [List.cons_append, decN, if_pos h1, List.length_cons, List.length_nil]
  · rw [if_neg h1]
    by_cases h2 : c < 2048
    · rw [if_pos h2]
      have e : (192 + c / 64) % 32 * 64 + (128 + c % 64) % 64 = c := by omega
      simp only [List.cons_append, List.nil_append, decN, List.length_cons, List.length_nil, e]
      rw [if_neg (by omega), if_pos (by omega), if_pos (by omega)]
    · rw [if_neg h2]
      by_cases h3 : c < 65536
      · rw [if_pos h3]
        have e : ((224 + c / 4096) % 16 * 64 + (128 + c / 64 % 64) % 64) * 64 + (128 + c % 64) % 64 = c := by omega
        simp only [List.cons_append, List.nil_append, decN, List.length_cons, List.length_nil, e]
        rw [if_neg (by omega), if_neg (by omega), if_pos (by omega), if_pos ⟨by omega, by omega, by omega, h⟩]
      · rw [if_neg h3]
        have e : (((240 + c / 262144) % 8 * 64 + (128 + c / 4096 % 64) % 64) * 64 + (128 + c / 64 % 64) % 64) * 64 + (128 + c % 64) % 64 = c := by omega
        simp only [List.cons_append, List.nil_append, decN, List.length_cons, List.length_nil, e]
        rw [if_neg (by omega), if_neg (by omega), if_neg (by omega), if_pos (by omega), if_pos ⟨by omega, by omega, by omega, by omega, h⟩]
theorem decN_inv (l : List Nat) (hl : ∀ x ∈ l, x < 256) {c n : Nat} (h : decN l = some (c, n)) : isC c ∧ n = (encN c).length ∧ l.take n = encN c := by
  cases l with
  | nil => cases h
  | cons a l =>
    have ha := hl a (by simp)
    simp only [decN] at h
    by_cases h1 : a < 128
    · rw [if_pos h1] at h
      cases h
      refine ⟨⟨by omega, by omega⟩, ?_, ?_⟩
      · unfold encN; rw [if_pos h1]; rfl
      · unfold encN; rw [if_pos h1]; rfl
    · rw [if_neg h1] at h
      by_cases h2 : a / 32 = 6
      · rw [if_pos h2] at h
        cases l with
        | nil => cases h
        | cons b l =>
          have hb := hl b (by simp)
          simp only at h
          split at h
          · rename_i hc
            cases h
            have e : encN (a % 32 * 64 + b % 64) = [a, b] := by
              unfold encN
              rw [if_neg (by omega), if_pos (by omega)]
              congr 1
              · omega
              · congr 1; omega
            rw [e]
            exact ⟨⟨by omega, by omega⟩, rfl, rfl⟩
          · cases h
      · rw [if_neg h2] at h
        by_cases h3 : a / 16 = 14
        · rw [if_pos h3] at h
          match l, h with
          | b :: d :: l, h =>
            have hb := hl b (by simp)
            have hd := hl d (by simp)
            simp only at h
            split at h
            · rename_i hc
              cases h
              have e : encN ((a % 16 * 64 + b % 64) * 64 + d % 64) = [a, b, d] := by
                unfold encN
                rw [if_neg (by omega), if_neg (by omega), if_pos (by omega)]
                congr 1
                · omega
                · congr 1
                  · omega
                  · congr 1; omega
              rw [e]
              exact ⟨hc.2.2.2, rfl, rfl⟩
            · cases h
        · rw [if_neg h3] at h
          by_cases h4 : a / 8 = 30
          · rw [if_pos h4] at h
            match l, h with
            | b :: d :: f :: l, h =>
              have hb := hl b (by simp)
              have hd := hl d (by simp)
              have hf := hl f (by simp)
              simp only at h
              split at h
              · rename_i hc
                cases h
                have e : encN (((a % 8 * 64 + b % 64) * 64 + d % 64) * 64 + f % 64) = [a, b, d, f] := by
                  unfold encN
                  rw [if_neg (by omega), if_neg (by omega), if_neg (by omega)]
                  congr 1
                  · omega
                  · congr 1
                    · omega
                    · congr 1
                      · omega
                      · congr 1; omega
                rw [e]
                exact ⟨hc.2.2.2.2, rfl, rfl⟩
              · cases h
          · rw [if_neg h4] at h
            cases h
theorem nat_small (l : List UInt8) : ∀ x ∈ nat l, x < 256 := by
  intro x hx
  unfold nat at hx
  rw [List.mem_map] at hx
  obtain ⟨b, _, rfl⟩ := hx
  exact b.toNat_lt
theorem nat_app (a b : List UInt8) : nat (a ++ b) = nat a ++ nat b := by simp [nat]
theorem nat_inj {a b : List UInt8} (h : nat a = nat b) : a = b := by
  unfold nat at h
  exact (List.map_inj_right (fun _ _ => UInt8.toNat_inj.1)).1 h
theorem dec_enc (c : Nat) (h : isC c) (r : List UInt8) : dec (enc c ++ r) = some (c, (enc c).length) := by
  unfold dec
  rw [nat_app, nat_enc c h, decN_enc c h, enc_length]
theorem dec_inv {l : List UInt8} {c n : Nat} (h : dec l = some (c, n)) : isC c ∧ n = (enc c).length ∧ l = enc c ++ l.drop n := by
  obtain ⟨h1, h2, h3⟩ := decN_inv (nat l) (nat_small l) h
  refine ⟨h1, by rw [enc_length]; exact h2, ?_⟩
  have e : l.take n = enc c := by
    apply nat_inj
    rw [nat_enc c h1, ← h3]
    simp [nat, List.map_take]
  rw [← e, List.take_append_drop]
theorem dec_le {l : List UInt8} {c n : Nat} (h : dec l = some (c, n)) : 1 ≤ n ∧ n ≤ 4 ∧ n ≤ l.length := by
  obtain ⟨_, h2, h3⟩ := dec_inv h
  have := enc_len c
  have h4 := congrArg List.length h3
  rw [List.length_append] at h4
  omega
def chs (l : List UInt8) : Option (List Nat) :=
  match h : dec l with
  | none => if l = [] then some [] else none
  | some (c, n) => (chs (l.drop n)).map (c :: ·)
termination_by l.length
decreasing_by
  have := dec_le h
  rw [List.length_drop]
  omega
theorem chs_nil : chs [] = some [] := by
  rw [chs]
  split
  · rfl
  · rename_i h
    cases h
theorem chs_none {l : List UInt8} (h : dec l = none) (hl : l ≠ []) : chs l = none := by
  rw [chs]
  split
  · rw [if_neg hl]
  · rename_i h'
    rw [h] at h'
    cases h'
theorem chs_some {l : List UInt8} {c n : Nat} (h : dec l = some (c, n)) : chs l = (chs (l.drop n)).map (c :: ·) := by
  rw [chs]
  split
  · rename_i h'
    rw [h] at h'
    cases h'
  · rename_i c' n' h'
    rw [h] at h'
    cases h'
    rfl
def encs (cs : List Nat) : List UInt8 := cs.flatMap enc
theorem encs_cons (c : Nat) (cs : List Nat) : encs (c :: cs) = enc c ++ encs cs := by simp [encs]
theorem chs_cons (c : Nat) (h : isC c) (r : List UInt8) : chs (enc c ++ r) = (chs r).map (c :: ·) := by
  rw [chs_some (dec_enc c h r), List.drop_left]
theorem chs_encs (cs : List Nat) (h : ∀ c ∈ cs, isC c) (r : List UInt8) : chs (encs cs ++ r) = (chs r).map (cs ++ ·) := by
  induction cs with
  | nil => cases hr : chs r <;> simp [encs, hr]
  | cons c cs ih =>
    rw [encs_cons, List.append_assoc, chs_cons c (h c (by simp)), ih (fun x hx => h x (by simp [hx]))]
    cases chs r <;> simp
theorem chs_all (cs : List Nat) (h : ∀ c ∈ cs, isC c) : chs (encs cs) = some cs := by
  have := chs_encs cs h []
  rw [List.append_nil, chs_nil] at this
  simpa using this
theorem chs_inv (n : Nat) : ∀ (l : List UInt8) (cs : List Nat), l.length ≤ n → chs l = some cs → (∀ c ∈ cs, isC c) ∧ l = encs cs := by
  induction n with
  | zero =>
    intro l cs hl h
    obtain rfl : l = [] := List.length_eq_zero_iff.mp (by omega)
    rw [chs_nil] at h
    cases h
    exact ⟨by simp, rfl⟩
  | succ n ih =>
    intro l cs hl h
    cases hd : dec l with
    | none =>
      by_cases h0 : l = []
      · subst h0
        rw [chs_nil] at h
        cases h
        exact ⟨by simp, rfl⟩
      · rw [chs_none hd h0] at h
        cases h
    | some x =>
      obtain ⟨c, k⟩ := x
      have hk := dec_le hd
      obtain ⟨i1, i2, i3⟩ := dec_inv hd
      rw [chs_some hd] at h
      cases hr : chs (l.drop k) with
      | none => rw [hr] at h; cases h
      | some ds =>
        rw [hr] at h
        cases h
        obtain ⟨j1, j2⟩ := ih (l.drop k) ds (by rw [List.length_drop]; omega) hr
        refine ⟨fun x hx => ?_, ?_⟩
        · rw [List.mem_cons] at hx
          rcases hx with rfl | hx
          · exact i1
          · exact j1 x hx
        · rw [encs_cons, ← j2]
          exact i3
theorem chs_iff {l : List UInt8} {cs : List Nat} : chs l = some cs ↔ (∀ c ∈ cs, isC c) ∧ l = encs cs :=
  ⟨chs_inv l.length l cs (Nat.le_refl _), fun ⟨h, e⟩ => by rw [e]; exact chs_all cs h⟩
theorem chs_length {l : List UInt8} {cs : List Nat} (h : chs l = some cs) : cs.length ≤ l.length := by
  obtain ⟨h1, e⟩ := chs_iff.1 h
  rw [e]
  clear h e h1
  induction cs with
  | nil => simp [encs]
  | cons c cs ih => rw [encs_cons, List.length_append]; have := enc_len c; simp; omega
def cont (b : UInt8) : Prop := b.toNat / 64 = 2
instance (b : UInt8) : Decidable (cont b) := by unfold cont; infer_instance
end Go.Proofs.YtipenplplmdclaaDoor.Utf
end
section
namespace Go.Proofs.YtipenplplmdclaaDoor.Utf
open Go
theorem enc_ascii (c : Nat) (h : c < 128) : enc c = [UInt8.ofNat c] := by
  unfold enc encN
  rw [if_pos h]
  rfl
theorem enc_u8 (b : UInt8) (h : b.toNat < 128) : enc b.toNat = [b] := by
  rw [enc_ascii _ h]
  congr 1
  simp
def calm (c : Nat) : Prop := 32 ≤ c ∧ c ≠ 127
instance (c : Nat) : Decidable (calm c) := by unfold calm; infer_instance
end Go.Proofs.YtipenplplmdclaaDoor.Utf
end
section
namespace Go.Proofs.YtipenplplmdclaaDoor.Utf
open Go Go.RowKit Go.Proofs.YtipenplplmdclaaDoor.Px Go.Proofs.YtipenplplmdclaaDoorW.PrintWords Go.Proofs.YtipenplplmdclaaDoor.Str
theorem is_f (c : Nat) : utf_is.f (c : Int) = some (decide (isC c)) := by
  unfold utf_is.f
  rw [if_pos (by omega)]
  by_cases h1 : c ≤ 1114111
  · rw [if_pos (by omega)]
    by_cases h2 : c < 55296
    · rw [if_pos (by omega), decide_eq_true (show isC c from ⟨h1, .inl h2⟩)]
    · rw [if_neg (by omega)]
      congr 1
      rw [Bool.eq_iff_iff, decide_eq_true_eq, decide_eq_true_eq]
      unfold isC
      omega
  · rw [if_neg (by omega), decide_eq_false (fun z : isC c => h1 z.1)]
theorem f63 : ∀ b : Fin 256, Go.bits .and .u8 (b.val : Int) 63 = ((b.val % 64 : Nat) : Int) := by decide +kernel
theorem f31 : ∀ b : Fin 256, Go.bits .and .u8 (b.val : Int) 31 = ((b.val % 32 : Nat) : Int) := by decide +kernel
theorem f15 : ∀ b : Fin 256, Go.bits .and .u8 (b.val : Int) 15 = ((b.val % 16 : Nat) : Int) := by decide +kernel
theorem f7 : ∀ b : Fin 256, Go.bits .and .u8 (b.val : Int) 7 = ((b.val % 8 : Nat) : Int) := by decide +kernel
theorem or_i64 (x y : Nat) (hx : x % 64 = 0) (hx1 : x < 4611686018427387904) (hy : y < 64) : Go.bits .or .i64 (x : Int) (y : Int) = ((x + y : Nat) : Int) := by
  rw [bits_join .i64 63 (by decide) (fun n h0 h1 => by rw [IntKind.wrap_i64]; omega) 6 (x : Int) (y : Int) (by omega) (by omega) (by omega) (by omega) (by omega) (by omega)]
  omega
def at_ (s : ByteArray) (i : Nat) : Nat := (s.data.toList.getD i 0).toNat
theorem at_lt (s : ByteArray) (i : Nat) : at_ s i < 256 := (s.data.toList.getD i 0).toNat_lt
theorem bt_at {s : ByteArray} {i : Nat} (h : i < s.size) : bt s (i : Int) = (at_ s i : Int) := bt_L h
theorem first_step (s : ByteArray) (k c n i : Nat) (hc : c < 2097152) (hi : i < n) (hs : i < s.size) (hi8 : i < 8) :
    utf_First.l0 (k + 1) s (c : Int) (n : Int) (i : Int) = if at_ s i / 64 = 2 then utf_First.l0 k s ((c * 64 + at_ s i % 64 : Nat) : Int) (n : Int) ((i + 1 : Nat) : Int) else some (0, 0, 40) := by
  have hb := at_lt s i
  simp only [utf_First.l0]
  rw [if_pos (by omega), if_pos (by omega), if_pos (by omega), bt_at hs]
  have e := f63 ⟨at_ s i, hb⟩
  simp only at e
  rw [e, wrap64_id (x := (c : Int) * 64) (by omega) (by omega), wrap64_id (x := ((at_ s i % 64 : Nat) : Int)) (by omega) (by omega), show (c : Int) * 64 = ((c * 64 : Nat) : Int) by omega,
    or_i64 (c * 64) (at_ s i % 64) (by omega) (by omega) (by omega), wrap64_id (by omega) (by omega)]
  by_cases h : at_ s i / 64 = 2
  · rw [if_pos (by omega), if_pos h]
    rfl
  · rw [if_neg (by omega), if_neg h]
def lst (n : Nat) : Nat := if n = 2 then 128 else if n = 3 then 2048 else if n = 4 then 65536 else 0
theorem first_end (s : ByteArray) (k c n : Nat) : utf_First.l0 (k + 1) s (c : Int) (n : Int) (n : Int) = some (if isC c ∧ lst n ≤ c then ((c : Int), (n : Int), (0 : Int)) else (0, 0, 40)) := by
  simp only [utf_First.l0]
  rw [if_neg (by omega), is_f]
  simp only [Option.bind_some, decide_eq_true_eq]
  by_cases h : isC c
  · rw [if_pos h]
    have hl : utf_least.f (n : Int) = some ((lst n : Nat) : Int) := by
      unfold utf_least.f lst
      by_cases h2 : n = 2
      · rw [if_pos (by omega), if_pos h2]; rfl
      · rw [if_neg (by omega), if_neg h2]
        by_cases h3 : n = 3
        · rw [if_pos (by omega), if_pos h3]; rfl
        · rw [if_neg (by omega), if_neg h3]
          by_cases h4 : n = 4
          · rw [if_pos (by omega), if_pos h4]; rfl
          · rw [if_neg (by omega), if_neg h4]; rfl
    rw [hl]
    simp only [Option.bind_some]
    by_cases hc : lst n ≤ c
    · rw [if_neg (by omega), if_pos ⟨h, hc⟩]
    · rw [if_pos (by omega), if_neg (fun z => hc z.2)]
  · rw [if_neg h, if_neg (fun z => h z.1)]
def decR (l : List UInt8) : Int × Int × Int := match dec l with | some (c, n) => ((c : Int), (n : Int), 0) | none => (0, 0, 40)
theorem decR_some {l : List UInt8} {c n : Nat} (h : dec l = some (c, n)) : decR l = ((c : Int), (n : Int), 0) := by unfold decR; rw [h]
theorem decR_none {l : List UInt8} (h : dec l = none) : decR l = (0, 0, 40) := by unfold decR; rw [h]
theorem first_k (s : ByteArray) (k : Nat) : utf_First.f (k + 5) s = some (decR s.data.toList) := by
  unfold utf_First.f
  rw [toList_L]
  cases hl : s.data.toList with
  | nil => rw [if_pos rfl]; rfl
  | cons a l =>
    have hsz : s.size = l.length + 1 := by rw [size_L, hl]; rfl
    have ha : at_ s 0 = a.toNat := by unfold at_; rw [hl]; rfl
    have hal := a.toNat_lt
    have hb0 : bt s 0 = (a.toNat : Int) := by
      have := bt_at (s := s) (i := 0) (by omega)
      rw [ha] at this
      exact this
    rw [if_neg (by simp), if_pos (by omega), hb0]
    unfold utf_long.f
    have gen : ∀ (n c : Nat), n ≠ 0 → (if (n : Int) = 0 then utf_First.j0 (k + 5) s (c : Int) (n : Int) true else utf_First.j0 (k + 5) s (c : Int) (n : Int) (decide ((n : Int) > (s.size : Int)))) = if n ≤ s.size then utf_First.l0 (k + 4) s (c : Int) (n : Int) ((1 : Nat) : Int) else some (0, 0, 40) := by
      intro n c h0
      rw [if_neg (by omega)]
      simp only [utf_First.j0, decide_eq_true_eq]
      by_cases h : n ≤ s.size
      · rw [if_neg (by omega), if_pos h]; rfl
      · rw [if_pos (by omega), if_neg h]
    have fl : ∀ m : Nat, m < 256 → wrap64 (m : Int) = (m : Int) := fun m hm => wrap64_id (by omega) (by omega)
    have na : nat (a :: l) = a.toNat :: nat l := rfl
    by_cases h1 : a.toNat < 128
    · rw [if_pos (by omega), fl _ hal]
      simp only [Option.bind_some]
      have g := gen 1 a.toNat (by decide)
      rw [show ((1 : Nat) : Int) = 1 from rfl] at g
      rw [g, if_pos (by omega)]
      have e := first_end s (k + 3) a.toNat 1
      rw [show ((1 : Nat) : Int) = 1 from rfl] at e
      rw [e, if_pos ⟨⟨by omega, by omega⟩, by show 0 ≤ _; omega⟩]
      unfold decR dec
      rw [na]
      simp only [decN, if_pos h1]
      rfl
    · rw [if_neg (by omega)]
      by_cases h2 : a.toNat / 32 = 6
      · have e31 := f31 ⟨a.toNat, hal⟩
        simp only at e31
        rw [if_pos (by omega), e31, fl _ (by omega)]
        simp only [Option.bind_some]
        have g := gen 2 (a.toNat % 32) (by decide)
        rw [show ((2 : Nat) : Int) = 2 from rfl] at g
        rw [g]
        cases l with
        | nil =>
          rw [if_neg (by simp at hsz; omega)]
          unfold decR dec
          rw [na]
          simp only [decN, if_neg h1, if_pos h2, nat, List.map_nil]
        | cons b l =>
          have hb : at_ s 1 = b.toNat := by unfold at_; rw [hl]; rfl
          have hbl := b.toNat_lt
          have st := first_step s (k + 3) (a.toNat % 32) 2 1 (by omega) (by decide) (by simp at hsz; omega) (by decide)
          have en := first_end s (k + 2) (a.toNat % 32 * 64 + b.toNat % 64) 2
          rw [show ((2 : Nat) : Int) = 2 from rfl] at st en
          rw [if_pos (by simp at hsz; omega), st, hb]
          unfold decR dec
          rw [na]
          simp only [decN, if_neg h1, if_pos h2, nat, List.map_cons]
          by_cases c1 : b.toNat / 64 = 2
          · rw [if_pos c1, en]
            by_cases c2 : lst 2 ≤ a.toNat % 32 * 64 + b.toNat % 64
            · rw [if_pos ⟨⟨by omega, by omega⟩, c2⟩, if_pos ⟨c1, c2⟩]
              rfl
            · rw [if_neg (fun z => c2 z.2), if_neg (fun z => c2 z.2)]
          · rw [if_neg c1, if_neg (fun z => c1 z.1)]
      · rw [if_neg (by omega)]
        by_cases h3 : a.toNat / 16 = 14
        · have e15 := f15 ⟨a.toNat, hal⟩
          simp only at e15
          rw [if_pos (by omega), e15, fl _ (by omega)]
          simp only [Option.bind_some]
          have g := gen 3 (a.toNat % 16) (by decide)
          rw [show ((3 : Nat) : Int) = 3 from rfl] at g
          rw [g]
          match l, hl, hsz, na with
          | [], hl, hsz, na =>
            rw [if_neg (by simp at hsz; omega)]
            unfold decR dec
            rw [na]
            simp only [decN, if_neg h1, if_neg h2, if_pos h3, nat, List.map_nil]
          | [b], hl, hsz, na =>
            rw [if_neg (by simp at hsz; omega)]
            unfold decR dec
            rw [na]
            simp only [decN, if_neg h1, if_neg h2, if_pos h3, nat, List.map_cons, List.map_nil]
          | b :: d :: l, hl, hsz, na =>
            have hb : at_ s 1 = b.toNat := by unfold at_; rw [hl]; rfl
            have hd : at_ s 2 = d.toNat := by unfold at_; rw [hl]; rfl
            have hbl := b.toNat_lt
            have hdl := d.toNat_lt
            simp only [List.length_cons] at hsz
            have s1 := first_step s (k + 3) (a.toNat % 16) 3 1 (by omega) (by decide) (by omega) (by decide)
            have s2 := first_step s (k + 2) (a.toNat % 16 * 64 + b.toNat % 64) 3 2 (by omega) (by decide) (by omega) (by decide)
            have en := first_end s (k + 1) ((a.toNat % 16 * 64 + b.toNat % 64) * 64 + d.toNat % 64) 3
            rw [show ((3 : Nat) : Int) = 3 from rfl] at s1 s2 en
            rw [if_pos (by omega), s1, hb]
            unfold decR dec
            rw [na]
            simp only [decN, if_neg h1, if_neg h2, if_pos h3, nat, List.map_cons]
            by_cases c1 : b.toNat / 64 = 2
            · rw [if_pos c1, show (1 + 1 : Nat) = 2 from rfl, s2, hd]
              by_cases c2 : d.toNat / 64 = 2
              · rw [if_pos c2, en]
                by_cases c3 : isC ((a.toNat % 16 * 64 + b.toNat % 64) * 64 + d.toNat % 64) ∧ lst 3 ≤ (a.toNat % 16 * 64 + b.toNat % 64) * 64 + d.toNat % 64
                · rw [if_pos c3, if_pos ⟨c1, c2, c3.2, c3.1⟩]
                  rfl
                · rw [if_neg c3, if_neg (fun z => c3 ⟨z.2.2.2, z.2.2.1⟩)]
              · rw [if_neg c2, if_neg (fun z => c2 z.2.1)]
            · rw [if_neg c1, if_neg (fun z => c1 z.1)]
        · rw [if_neg (by omega)]
          by_cases h4 : a.toNat / 8 = 30
          · have e7 := f7 ⟨a.toNat, hal⟩
            simp only at e7
            rw [if_pos (by omega), e7, fl _ (by omega)]
            simp only [Option.bind_some]
            have g := gen 4 (a.toNat % 8) (by decide)
            rw [show ((4 : Nat) : Int) = 4 from rfl] at g
            rw [g]
            match l, hl, hsz, na with
            | [], hl, hsz, na =>
              rw [if_neg (by simp at hsz; omega)]
              unfold decR dec
              rw [na]
              simp only [decN, if_neg h1, if_neg h2, if_neg h3, if_pos h4, nat, List.map_nil]
            | [b], hl, hsz, na =>
              rw [if_neg (by simp at hsz; omega)]
              unfold decR dec
              rw [na]
              simp only [decN, if_neg h1, if_neg h2, if_neg h3, if_pos h4, nat, List.map_cons, List.map_nil]
            | [b, d], hl, hsz, na =>
              rw [if_neg (by simp at hsz; omega)]
              unfold decR dec
              rw [na]
              simp only [decN, if_neg h1, if_neg h2, if_neg h3, if_pos h4, nat, List.map_cons, List.map_nil]
            | b :: d :: f :: l, hl, hsz, na =>
              have hb : at_ s 1 = b.toNat := by unfold at_; rw [hl]; rfl
              have hd : at_ s 2 = d.toNat := by unfold at_; rw [hl]; rfl
              have hf : at_ s 3 = f.toNat := by unfold at_; rw [hl]; rfl
              have hbl := b.toNat_lt
              have hdl := d.toNat_lt
              have hfl := f.toNat_lt
              simp only [List.length_cons] at hsz
              have s1 := first_step s (k + 3) (a.toNat % 8) 4 1 (by omega) (by decide) (by omega) (by decide)
              have s2 := first_step s (k + 2) (a.toNat % 8 * 64 + b.toNat % 64) 4 2 (by omega) (by decide) (by omega) (by decide)
              have s3 := first_step s (k + 1) ((a.toNat % 8 * 64 + b.toNat % 64) * 64 + d.toNat % 64) 4 3 (by omega) (by decide) (by omega) (by decide)
              have en := first_end s k (((a.toNat % 8 * 64 + b.toNat % 64) * 64 + d.toNat % 64) * 64 + f.toNat % 64) 4
              rw [show ((4 : Nat) : Int) = 4 from rfl] at s1 s2 s3 en
              rw [if_pos (by omega), s1, hb]
              unfold decR dec
              rw [na]
              simp only [decN, if_neg h1, if_neg h2, if_neg h3, if_pos h4, nat, List.map_cons]
              by_cases c1 : b.toNat / 64 = 2
              · rw [if_pos c1, show (1 + 1 : Nat) = 2 from rfl, s2, hd]
                by_cases c2 : d.toNat / 64 = 2
                · rw [if_pos c2, show (2 + 1 : Nat) = 3 from rfl, s3, hf]
                  by_cases c4 : f.toNat / 64 = 2
                  · rw [if_pos c4, en]
                    by_cases c3 : isC (((a.toNat % 8 * 64 + b.toNat % 64) * 64 + d.toNat % 64) * 64 + f.toNat % 64) ∧ lst 4 ≤ ((a.toNat % 8 * 64 + b.toNat % 64) * 64 + d.toNat % 64) * 64 + f.toNat % 64
                    · rw [if_pos c3, if_pos ⟨c1, c2, c4, c3.2, c3.1⟩]
                      rfl
                    · rw [if_neg c3, if_neg (fun z => c3 ⟨z.2.2.2.2, z.2.2.2.1⟩)]
                  · rw [if_neg c4, if_neg (fun z => c4 z.2.2.1)]
                · rw [if_neg c2, if_neg (fun z => c2 z.2.1)]
              · rw [if_neg c1, if_neg (fun z => c1 z.1)]
          · rw [if_neg (by omega)]
            simp only [Option.bind_some, if_true, utf_First.j0]
            unfold decR dec
            rw [na]
            simp only [decN, if_neg h1, if_neg h2, if_neg h3, if_neg h4]
theorem first_ev (s : ByteArray) : Ev (fun k => utf_First.f k s) (decR s.data.toList) :=
  ⟨5, fun k hk => by obtain ⟨j, rfl⟩ : ∃ j, k = j + 5 := ⟨k - 5, by omega⟩; exact first_k s j⟩
def ints (cs : List Nat) : List Int := cs.map fun c : Nat => (c : Int)
def chsR (acc : List Int) (l : List UInt8) : List Int × Int := match chs l with | some cs => (acc ++ ints cs, 0) | none => ([], 40)
theorem chsR_some {acc : List Int} {l : List UInt8} {cs : List Nat} (h : chs l = some cs) : chsR acc l = (acc ++ ints cs, 0) := by unfold chsR; rw [h]
theorem chsR_none {acc : List Int} {l : List UInt8} (h : chs l = none) : chsR acc l = ([], 40) := by unfold chsR; rw [h]
theorem chsR_step {acc : List Int} {l : List UInt8} {c n : Nat} (h : dec l = some (c, n)) : chsR acc l = chsR (acc ++ [(c : Int)]) (l.drop n) := by
  cases hr : chs (l.drop n) with
  | none => rw [chsR_none hr, chsR_none (by rw [chs_some h, hr]; rfl)]
  | some cs => rw [chsR_some hr, chsR_some (cs := c :: cs) (by rw [chs_some h, hr]; rfl)]; simp [ints]
theorem chars_l0 (n : Nat) : ∀ (s : ByteArray) (acc : List Int), s.size ≤ n → acc.length + s.size ≤ 1073741824 → Ev (fun k => utf_Chars.l0 k s acc) (chsR acc s.data.toList) := by
  induction n with
  | zero =>
    intro s acc hs _
    have h0 : s.data.toList = [] := List.length_eq_zero_iff.mp (by rw [← size_L]; omega)
    rw [h0, chsR_some chs_nil]
    refine Ev.step (f := fun _ => some _) (fun k => ?_) (Ev.now _)
    simp only [utf_Chars.l0]
    rw [if_pos (by rw [toList_L, h0])]
    simp [ints]
  | succ n ih =>
    intro s acc hs ha
    by_cases h0 : s.data.toList = []
    · rw [h0, chsR_some chs_nil]
      refine Ev.step (f := fun _ => some _) (fun k => ?_) (Ev.now _)
      simp only [utf_Chars.l0]
      rw [if_pos (by rw [toList_L, h0])]
      simp [ints]
    · cases hd : dec s.data.toList with
      | none =>
        rw [chsR_none (chs_none hd h0)]
        refine Ev.step (f := fun k => (utf_First.f k s).bind fun _ => some (([] : List Int), (40 : Int))) (fun k => ?_) (Ev.bind (first_ev s) (Ev.now _))
        simp only [utf_Chars.l0]
        rw [if_neg (by rw [toList_L]; exact h0)]
        cases hf : utf_First.f k s with
        | none => rfl
        | some x =>
          have h5 := at_rounds (g := fun k => utf_First.f k s) (fun k => utf_First.mono s k) (show k ≤ k + 5 by omega) hf
          rw [first_k, decR_none hd] at h5
          cases h5
          rfl
      | some x =>
        obtain ⟨c, m⟩ := x
        have hm := dec_le hd
        rw [← size_L] at hm
        rw [chsR_step hd]
        have h := ih (s.extract m s.size) (acc ++ [(c : Int)]) (by rw [size_L, post_L, List.length_drop, ← size_L]; omega) (by rw [size_L, post_L, List.length_drop, ← size_L, List.length_append]; simp; omega)
        rw [post_L] at h
        refine Ev.step (f := fun k => (utf_First.f k s).bind fun b => if b.2.2 = 0 then (if acc.length < 17592186044416 then (if 0 ≤ b.2.1 then (if b.2.1 ≤ (s.size : Int) then (utf_Chars.l0 k (s.extract (b.2.1 : Int).toNat s.size) (acc ++ [b.1])) else none) else none) else none) else some (([] : List Int), b.2.2)) (fun k => ?_) ?_
        · simp only [utf_Chars.l0]
          rw [if_neg (by rw [toList_L]; exact h0)]
        · refine Ev.bind (first_ev s) ?_
          rw [decR_some hd]
          refine Ev.congr (fun k => ?_) h
          simp only [if_true]
          rw [if_pos (by omega), if_pos (by omega), if_pos (by omega), Int.toNat_natCast]
theorem chars_ev (s : ByteArray) (hs : s.size ≤ 1073741824) : Ev (fun k => utf_Chars.f k s) (chsR [] s.data.toList) := by
  unfold utf_Chars.f
  exact chars_l0 s.size s [] (Nat.le_refl _) (by simpa using hs)
end Go.Proofs.YtipenplplmdclaaDoor.Utf
end
section
namespace Go.Proofs.YtipenplplmdclaaDoor.Utf
open Go Go.RowKit Go.Proofs.YtipenplplmdclaaDoor.Px Go.Proofs.YtipenplplmdclaaDoorW.PrintWords Go.Proofs.YtipenplplmdclaaDoor.Str
theorem nums_ints (l : List Nat) : strOfNums (l.map fun c : Nat => (c : Int)) = ofL (l.map UInt8.ofNat) := by
  apply ext
  rw [nums_L, ofL_L, List.map_map]
  rfl
theorem refis_f (x : Int) : gongref04_Is.f x = utf_is.f x := rfl
theorem tdiv_nat (c m : Nat) : Int.tdiv (c : Int) (m : Int) = ((c / m : Nat) : Int) := by
  rw [Int.tdiv_eq_ediv_of_nonneg (by omega)]
  simp
theorem tmod_nat (c m : Nat) : Int.tmod (c : Int) (m : Int) = ((c % m : Nat) : Int) := by
  rw [Int.tmod_eq_emod_of_nonneg (by omega)]
  simp
theorem wrap_nat (c : Nat) (h : c < 9223372036854775808) : wrap64 (c : Int) = (c : Int) := wrap64_id (by omega) (by omega)
theorem add_wrap (x y : Nat) (h : x + y < 256) : wrap64 ((x : Int) + (y : Int)) % 256 = ((x + y : Nat) : Int) := by
  rw [wrap64_id (by omega) (by omega)]
  omega
theorem made_f (c : Nat) (h : isC c) : gongref04_Made.f (c : Int) = some (ofL (enc c)) := by
  unfold isC at h
  unfold gongref04_Made.f enc
  rw [← nums_ints]
  have d1 : wrap64 (Int.tdiv (c : Int) 64) = ((c / 64 : Nat) : Int) := by rw [show (64 : Int) = ((64 : Nat) : Int) from rfl, tdiv_nat, wrap_nat _ (by omega)]
  have d2 : wrap64 (Int.tdiv (c : Int) 4096) = ((c / 4096 : Nat) : Int) := by rw [show (4096 : Int) = ((4096 : Nat) : Int) from rfl, tdiv_nat, wrap_nat _ (by omega)]
  have d3 : wrap64 (Int.tdiv (c : Int) 262144) = ((c / 262144 : Nat) : Int) := by rw [show (262144 : Int) = ((262144 : Nat) : Int) from rfl, tdiv_nat, wrap_nat _ (by omega)]
  have m : ∀ x : Nat, Int.tmod (x : Int) 64 = ((x % 64 : Nat) : Int) := fun x => tmod_nat x 64
  have a1 : ∀ (k y : Nat), k + y < 256 → wrap64 ((k : Int) + (y : Int)) % 256 = ((k + y : Nat) : Int) := add_wrap
  unfold encN
  by_cases h1 : c < 128
  · rw [if_pos (by omega), if_pos h1]
    congr 2
    simp only [List.map_cons, List.map_nil, List.cons.injEq, and_true]
    omega
  · by_cases h2 : c < 2048
    · rw [if_neg (by omega), if_pos (by omega), if_neg h1, if_pos h2, d1, m]
      have e1 := a1 192 (c / 64) (by omega)
      have e2 := a1 128 (c % 64) (by omega)
      rw [show ((192 : Nat) : Int) = 192 from rfl] at e1
      rw [show ((128 : Nat) : Int) = 128 from rfl] at e2
      rw [e1, e2]
      rfl
    · by_cases h3 : c < 65536
      · rw [if_neg (by omega), if_neg (by omega), if_pos (by omega), if_neg h1, if_neg h2, if_pos h3, d1, d2, m, m]
        have e1 := a1 224 (c / 4096) (by omega)
        have e2 := a1 128 (c % 64) (by omega)
        have e3 := a1 128 (c / 64 % 64) (by omega)
        rw [show ((224 : Nat) : Int) = 224 from rfl] at e1
        rw [show ((128 : Nat) : Int) = 128 from rfl] at e2 e3
        rw [e1, e2, e3]
        rfl
      · rw [if_neg (by omega), if_neg (by omega), if_neg (by omega), if_neg h1, if_neg h2, if_neg h3, d1, d2, d3, m, m, m]
        have e1 := a1 240 (c / 262144) (by omega)
        have e2 := a1 128 (c % 64) (by omega)
        have e3 := a1 128 (c / 64 % 64) (by omega)
        have e4 := a1 128 (c / 4096 % 64) (by omega)
        rw [show ((240 : Nat) : Int) = 240 from rfl] at e1
        rw [show ((128 : Nat) : Int) = 128 from rfl] at e2 e3 e4
        rw [e1, e2, e3, e4]
        rfl
def gs (f : Nat → Nat) (n : Nat) : Nat :=
  if n = 1 then f 0 else if n = 2 then f 0 % 32 * 64 + f 1 % 64
  else if n = 3 then (f 0 % 16 * 64 + f 1 % 64) * 64 + f 2 % 64
  else ((f 0 % 8 * 64 + f 1 % 64) * 64 + f 2 % 64) * 64 + f 3 % 64
theorem guess_step (s : ByteArray) (k n x i : Nat) (hx : x < 2097152) (hi : i < n) (hs : i < s.size) (h8 : i < 8) :
    gongref04_guess.l0 (k + 1) s (n : Int) (x : Int) (i : Int) = gongref04_guess.l0 k s (n : Int) ((x * 64 + at_ s i % 64 : Nat) : Int) ((i + 1 : Nat) : Int) := by
  simp only [gongref04_guess.l0]
  have hb := at_lt s i
  have hm : Int.tmod ((at_ s i : Nat) : Int) 64 = ((at_ s i % 64 : Nat) : Int) := tmod_nat _ 64
  rw [if_pos (by omega), if_pos (by omega), if_pos (by omega), bt_at hs, hm, wrap_nat _ (by omega), wrap64_id (x := (x : Int) * 64) (by omega) (by omega), wrap64_id (by omega) (by omega), wrap64_id (by omega) (by omega)]
  congr 1
theorem guess_end (s : ByteArray) (k n x : Nat) : gongref04_guess.l0 (k + 1) s (n : Int) (x : Int) (n : Int) = some (x : Int) := by
  simp only [gongref04_guess.l0]
  rw [if_neg (by omega)]
theorem guess_k (s : ByteArray) (k n : Nat) (h1 : 1 ≤ n) (h4 : n ≤ 4) (hs : n ≤ s.size) : gongref04_guess.f (k + 6) s (n : Int) = some ((gs (at_ s) n : Nat) : Int) := by
  have hb0 : bt s 0 = (at_ s 0 : Int) := bt_at (s := s) (i := 0) (by omega)
  have hl := at_lt s 0
  unfold gongref04_guess.f gs
  rw [if_pos (by omega), hb0, wrap_nat _ (by omega)]
  have m : ∀ (j x : Nat), gongref04_guess.j0 (k + 6) s (j : Int) (x : Int) = gongref04_guess.l0 (k + 5) s (j : Int) (x : Int) ((1 : Nat) : Int) := fun j x => by simp only [gongref04_guess.j0]; rfl
  by_cases e1 : n = 1
  · rw [if_pos (by omega), if_pos e1]
  · rw [if_neg (by omega), if_neg e1]
    by_cases e2 : n = 2
    · subst e2
      have t : Int.tmod ((at_ s 0 : Nat) : Int) 32 = ((at_ s 0 % 32 : Nat) : Int) := tmod_nat _ 32
      rw [if_pos (show ((2 : Nat) : Int) = 2 from rfl), if_pos rfl, t, m, guess_step s _ _ _ _ (by omega) (by decide) (by omega) (by decide), show (1 + 1 : Nat) = 2 from rfl, guess_end]
    · rw [if_neg (by omega), if_neg e2]
      by_cases e3 : n = 3
      · subst e3
        have t : Int.tmod ((at_ s 0 : Nat) : Int) 16 = ((at_ s 0 % 16 : Nat) : Int) := tmod_nat _ 16
        rw [if_pos (show ((3 : Nat) : Int) = 3 from rfl), if_pos rfl, t, m, guess_step s _ _ _ _ (by omega) (by decide) (by omega) (by decide), show (1 + 1 : Nat) = 2 from rfl, guess_step s _ _ _ _ (by omega) (by decide) (by omega) (by decide), show (2 + 1 : Nat) = 3 from rfl, guess_end]
      · have e4 : n = 4 := by omega
        subst e4
        have t : Int.tmod ((at_ s 0 : Nat) : Int) 8 = ((at_ s 0 % 8 : Nat) : Int) := tmod_nat _ 8
        rw [if_neg (by decide), if_neg e3, t, m, guess_step s _ _ _ _ (by omega) (by decide) (by omega) (by decide), show (1 + 1 : Nat) = 2 from rfl, guess_step s _ _ _ _ (by omega) (by decide) (by omega) (by decide), show (2 + 1 : Nat) = 3 from rfl, guess_step s _ _ _ _ (by omega) (by decide) (by omega) (by decide), show (3 + 1 : Nat) = 4 from rfl, guess_end]
theorem guess_ev (s : ByteArray) (n : Nat) (h1 : 1 ≤ n) (h4 : n ≤ 4) (hs : n ≤ s.size) : Ev (fun k => gongref04_guess.f k s (n : Int)) ((gs (at_ s) n : Nat) : Int) :=
  ⟨6, fun k hk => by obtain ⟨j, rfl⟩ : ∃ j, k = j + 6 := ⟨k - 6, by omega⟩; exact guess_k s j n h1 h4 hs⟩
theorem gs_dec {s : ByteArray} {c n : Nat} (h : dec s.data.toList = some (c, n)) : gs (at_ s) n = c := by
  obtain ⟨h1, h2, h3⟩ := dec_inv h
  have hn : ∀ i, i < n → (encN c).getD i 0 = at_ s i := by
    intro i hi
    unfold at_
    rw [h3, ← nat_enc c h1]
    unfold nat
    rw [List.getD_eq_getElem?_getD, List.getD_eq_getElem?_getD, List.getElem?_append_left (by omega), List.getElem?_map]
    rw [List.getElem?_eq_getElem (by omega)]
    rfl
  unfold isC at h1
  rw [enc_length] at h2
  unfold encN at hn h2
  unfold gs
  by_cases q1 : c < 128
  · rw [if_pos q1] at hn h2
    simp only [List.length_cons, List.length_nil] at h2
    subst h2
    have a0 := hn 0 (by decide)
    rw [if_pos rfl, ← a0]
    rfl
  · rw [if_neg q1] at hn h2
    by_cases q2 : c < 2048
    · rw [if_pos q2] at hn h2
      simp only [List.length_cons, List.length_nil] at h2
      subst h2
      have a0 := hn 0 (by decide)
      have a1 := hn 1 (by decide)
      simp only [List.getD_cons_zero, List.getD_cons_succ] at a0 a1
      rw [if_neg (by decide), if_pos rfl, ← a0, ← a1]
      omega
    · rw [if_neg q2] at hn h2
      by_cases q3 : c < 65536
      · rw [if_pos q3] at hn h2
        simp only [List.length_cons, List.length_nil] at h2
        subst h2
        have a0 := hn 0 (by decide)
        have a1 := hn 1 (by decide)
        have a2 := hn 2 (by decide)
        simp only [List.getD_cons_zero, List.getD_cons_succ] at a0 a1 a2
        rw [if_neg (by decide), if_neg (by decide), if_pos rfl, ← a0, ← a1, ← a2]
        omega
      · rw [if_neg q3] at hn h2
        simp only [List.length_cons, List.length_nil] at h2
        subst h2
        have a0 := hn 0 (by decide)
        have a1 := hn 1 (by decide)
        have a2 := hn 2 (by decide)
        have a3 := hn 3 (by decide)
        simp only [List.getD_cons_zero, List.getD_cons_succ] at a0 a1 a2 a3
        rw [if_neg (by decide), if_neg (by decide), if_neg (by decide), ← a0, ← a1, ← a2, ← a3]
        omega
theorem try_dec (s : ByteArray) (n : Nat) (hn : n ≤ s.size) : (isC (gs (at_ s) n) ∧ enc (gs (at_ s) n) = s.data.toList.take n) ↔ dec s.data.toList = some (gs (at_ s) n, n) := by
  constructor
  · intro ⟨h1, h2⟩
    have h3 := dec_enc _ h1 (s.data.toList.drop n)
    rw [h2, List.take_append_drop, List.length_take, ← size_L] at h3
    rw [h3]
    congr 2
    omega
  · intro h
    obtain ⟨h1, h2, h3⟩ := dec_inv h
    refine ⟨h1, ?_⟩
    generalize gs (at_ s) n = c at h1 h2 h3 ⊢
    rw [h2] at h3 ⊢
    rw [h3]
    exact List.take_left.symm
theorem refFirst_l0 (s : ByteArray) (d : Nat) : ∀ n : Nat, n + d = 5 → 1 ≤ n → (∀ c m, dec s.data.toList = some (c, m) → n ≤ m) → Ev (fun k => gongref04_First.l0 k s (n : Int)) (decR s.data.toList) := by
  have fin : ∀ n : Nat, (5 ≤ n ∨ s.size < n) → (∀ c m, dec s.data.toList = some (c, m) → n ≤ m) → Ev (fun k => gongref04_First.j1 k s (n : Int) false) (decR s.data.toList) := by
    intro n hn hm
    have h : dec s.data.toList = none := by
      cases hd : dec s.data.toList with
      | none => rfl
      | some x =>
        have h1 := hm x.1 x.2 hd
        have h2 := dec_le (c := x.1) (n := x.2) hd
        rw [← size_L] at h2
        omega
    rw [decR_none h]
    refine Ev.step (f := fun _ => some _) (fun k => ?_) (Ev.now _)
    simp only [gongref04_First.j1]
    rw [if_neg (by decide)]
  induction d with
  | zero =>
    intro n hd h1 hm
    refine Ev.step (fun k => ?_) (fin n (by omega) hm)
    simp only [gongref04_First.l0]
    rw [if_neg (by omega)]
  | succ d ih =>
    intro n hd h1 hm
    by_cases hs : n ≤ s.size
    · refine Ev.step (f := fun k => gongref04_First.j1 k s (n : Int) true) (fun k => ?_) ?_
      · simp only [gongref04_First.l0]
        rw [if_pos (by omega), decide_eq_true (by omega)]
      · have go : ¬ (dec s.data.toList = some (gs (at_ s) n, n)) → Ev (fun k => gongref04_First.l0 k s (wrap64 ((n : Int) + 1))) (decR s.data.toList) := by
          intro hno
          rw [show wrap64 ((n : Int) + 1) = ((n + 1 : Nat) : Int) from by rw [wrap64_id (by omega) (by omega)]; omega]
          refine ih (n + 1) (by omega) (by omega) (fun c m hcm => ?_)
          have := hm c m hcm
          by_cases e : m = n
          · subst e
            exact absurd (by rw [gs_dec hcm]; exact hcm) hno
          · omega
        refine Ev.step (f := fun k => (gongref04_guess.f k s (n : Int)).bind fun t157 => ((gongref04_Is.f t157).bind fun t158 => (if t158 = true then ((gongref04_Made.f t157).bind fun t159 => (if 0 ≤ (n : Int) then (if (n : Int) ≤ (s.size : Int) then (if t159.toList = (s.extract 0 ((n : Int) : Int).toNat).toList then (some (t157, (n : Int), 0)) else (gongref04_First.l0 k s (wrap64 ((n : Int) + 1)))) else (none)) else (none))) else (gongref04_First.l0 k s (wrap64 ((n : Int) + 1)))))) (fun k => by simp only [gongref04_First.j1, if_true]) ?_
        refine Ev.bind (guess_ev s n h1 (by omega) hs) ?_
        have hr := refis_f ((gs (at_ s) n : Nat) : Int)
        rw [is_f] at hr
        by_cases hc : isC (gs (at_ s) n)
        · by_cases ht : enc (gs (at_ s) n) = s.data.toList.take n
          · have hd' := (try_dec s n hs).1 ⟨hc, ht⟩
            rw [decR_some hd']
            refine Ev.congr (f := fun _ => some _) (fun k => ?_) (Ev.now _)
            rw [hr, decide_eq_true hc]
            simp only [Option.bind_some, if_true]
            rw [made_f _ hc]
            simp only [Option.bind_some]
            rw [if_pos (by omega), if_pos (by omega), toList_L, toList_L, ofL_L, pre_L, Int.toNat_natCast, if_pos ht]
          · refine Ev.congr (fun k => ?_) (go (fun z => ht ((try_dec s n hs).2 z).2))
            rw [hr, decide_eq_true hc]
            simp only [Option.bind_some, if_true]
            rw [made_f _ hc]
            simp only [Option.bind_some]
            rw [if_pos (by omega), if_pos (by omega), toList_L, toList_L, ofL_L, pre_L, Int.toNat_natCast, if_neg ht]
        · refine Ev.congr (fun k => ?_) (go (fun z => hc ((try_dec s n hs).2 z).1))
          rw [hr, decide_eq_false hc]
          simp only [Option.bind_some, Bool.false_eq_true, if_false]
    · refine Ev.step (fun k => ?_) (fin n (by omega) hm)
      simp only [gongref04_First.l0]
      rw [if_pos (by omega), decide_eq_false (by omega)]
theorem refFirst_ev (s : ByteArray) : Ev (fun k => gongref04_First.f k s) (decR s.data.toList) := by
  unfold gongref04_First.f
  exact refFirst_l0 s 4 1 (by decide) (by decide) (fun c m h => (dec_le h).1)
theorem refChars_l0 (s : ByteArray) (hs : s.size ≤ 1073741824) (n : Nat) : ∀ (i : Nat) (acc : List Int), s.size - i ≤ n → i ≤ s.size → acc.length ≤ i → Ev (fun k => gongref04_Chars.l0 k s acc (i : Int)) (chsR acc (s.data.toList.drop i)) := by
  have stop : ∀ (i : Nat) (acc : List Int), ¬ i < s.size → Ev (fun k => gongref04_Chars.l0 k s acc (i : Int)) (chsR acc (s.data.toList.drop i)) := by
    intro i acc h
    rw [List.drop_of_length_le (by rw [← size_L]; omega), chsR_some chs_nil]
    refine Ev.step (f := fun _ => some _) (fun k => ?_) (Ev.now _)
    simp only [gongref04_Chars.l0]
    rw [if_neg (by omega)]
    simp [ints]
  induction n with
  | zero => intro i acc hn hi ha; exact stop i acc (by omega)
  | succ n ih =>
    intro i acc hn hi ha
    by_cases hlt : i < s.size
    · have hf := refFirst_ev (s.extract i s.size)
      rw [post_L] at hf
      refine Ev.step (f := fun k => (gongref04_First.f k (s.extract i s.size)).bind fun b => if b.2.2 = 0 then (if acc.length < 17592186044416 then gongref04_Chars.l0 k s (acc ++ [b.1]) (wrap64 ((i : Int) + b.2.1)) else none) else some (([] : List Int), b.2.2)) (fun k => ?_) (Ev.bind hf ?_)
      · simp only [gongref04_Chars.l0]
        rw [if_pos (by omega), if_pos (by omega), if_pos (by omega), Int.toNat_natCast]
      · cases hd : dec (s.data.toList.drop i) with
        | none =>
          rw [decR_none hd, chsR_none (chs_none hd (by intro z; have := congrArg List.length z; rw [List.length_drop, ← size_L] at this; simp at this; omega))]
          exact Ev.congr (f := fun _ => some _) (fun k => by rw [if_neg (show ¬ (40 : Int) = 0 by decide)]) (Ev.now _)
        | some x =>
          obtain ⟨c, m⟩ := x
          have hm := dec_le hd
          rw [List.length_drop, ← size_L] at hm
          rw [decR_some hd, chsR_step hd, List.drop_drop]
          refine Ev.congr (fun k => ?_) (ih (i + m) (acc ++ [(c : Int)]) (by omega) (by omega) (by simp; omega))
          simp only [if_true]
          rw [if_pos (by omega), wrap64_id (by omega) (by omega)]
          rfl
    · exact stop i acc hlt
theorem refChars_ev (s : ByteArray) (hs : s.size ≤ 1073741824) : Ev (fun k => gongref04_Chars.f k s) (chsR [] s.data.toList) := by
  unfold gongref04_Chars.f
  exact refChars_l0 s hs s.size 0 [] (by omega) (by omega) (by simp)
end Go.Proofs.YtipenplplmdclaaDoor.Utf
end
section
namespace Go.Proofs.YtipenplplmdclaaDoor.Tkt
open Go Go.RowKit Go.Proofs.YtipenplplmdclaaDoor.Px Go.Proofs.YtipenplplmdclaaDoorW.PrintWords Go.Proofs.YtipenplplmdclaaDoor.Str Go.Proofs.YtipenplplmdclaaDoor.Utf
set_option linter.unusedSimpArgs false
set_option linter.unusedVariables false
theorem ev_succ {α : Type} {g : Nat → Option α} {r : α} (K : Nat) (h : ∀ k, K ≤ k → g (k + 1) = some r) : Ev g r := ⟨K + 1, fun k hk => by
  obtain ⟨k', rfl⟩ : ∃ k', k = k' + 1 := ⟨k - 1, by omega⟩
  exact h k' (by omega)⟩
def plB (s : ByteArray) (m : Int) : Bool := match chs s.data.toList with | some cs => !((ints cs).any norm_plain.ctl) && decide ((s.size : Int) ≤ m) | none => false
theorem plain_ev (s : ByteArray) (m : Int) (hs : s.size ≤ 1073741824) : Ev (fun k => norm_plain.f k s m) (plB s m) := by
  unfold norm_plain.f plB
  refine Ev.bind (chars_ev s hs) ?_
  cases h : chs s.data.toList with
  | none =>
    rw [chsR_none h]
    exact Ev.congr (f := fun _ => some false) (fun k => by simp) (Ev.now _)
  | some cs =>
    rw [chsR_some h]
    have hl := chs_length h
    have : s.data.toList.length = s.size := by simp
    refine Ev.congr (f := fun _ => some (!((ints cs).any norm_plain.ctl) && decide ((s.size : Int) ≤ m))) (fun k => ?_) (Ev.now _)
    simp only [List.nil_append]
    rw [if_pos (by simp [ints]; omega)]
    simp
theorem rplain_l0 (s : ByteArray) (m e : Int) (l : List Int) (hl : l.length ≤ 1073741824) (d : Nat) : ∀ i : Nat, i + d = l.length → Ev (fun k => gongref18_plain.l0 k s m l e (i : Int)) (if (l.drop i).any norm_plain.ctl = true then false else if e = 0 then decide ((s.size : Int) ≤ m) else false) := by
  induction d with
  | zero =>
    intro i hi
    refine ev_succ 0 fun k _ => ?_
    simp only [gongref18_plain.l0]
    rw [if_neg (by omega), List.drop_eq_nil_of_le (by omega)]
    by_cases he : e = 0
    · rw [if_pos he]; simp [he]
    · rw [if_neg he]; simp [he]
  | succ d ih =>
    intro i hi
    obtain ⟨K, hK⟩ := ih (i + 1) (by omega)
    refine ev_succ K fun k hk => ?_
    simp only [gongref18_plain.l0]
    rw [if_pos (by omega), if_pos (by omega)]
    have hrd : rd l (i : Int) = l.getD i 0 := by simp [rd]
    rw [hrd, List.drop_eq_getElem_cons (by omega), List.any_cons]
    have hg : l.getD i 0 = l[i]'(by omega) := by rw [List.getD_eq_getElem?_getD, List.getElem?_eq_getElem (by omega), Option.getD_some]
    rw [← hg]
    by_cases h1 : l.getD i 0 < 32
    · rw [if_pos h1, show norm_plain.ctl (l.getD i 0) = true from decide_eq_true (.inl h1)]
      simp
    rw [if_neg h1]
    by_cases h2 : l.getD i 0 = 127
    · rw [if_pos h2, show norm_plain.ctl (l.getD i 0) = true from decide_eq_true (.inr h2)]
      simp
    rw [if_neg h2, show norm_plain.ctl (l.getD i 0) = false from decide_eq_false (by omega), Bool.false_or, wrap64_id (by omega) (by omega)]
    exact hK k hk
theorem rplain_ev (s : ByteArray) (m : Int) (hs : s.size ≤ 1073741824) : Ev (fun k => gongref18_plain.f k s m) (plB s m) := by
  unfold gongref18_plain.f plB
  refine Ev.bind (refChars_ev s hs) ?_
  cases h : chs s.data.toList with
  | none =>
    rw [chsR_none h]
    have := rplain_l0 s m 40 [] (by simp) 0 0 (by simp)
    simpa using this
  | some cs =>
    rw [chsR_some h]
    have hl := chs_length h
    have hsz : s.data.toList.length = s.size := by simp
    have := rplain_l0 s m 0 ([] ++ ints cs) (by simp [ints]; omega) ([] ++ ints cs).length 0 (by omega)
    simp only [List.nil_append, List.drop_zero, if_true] at this ⊢
    cases hc : (ints cs).any norm_plain.ctl with
    | true => rw [hc] at this; simpa using this
    | false => rw [hc] at this; simpa using this
def evB (a b c : ByteArray) (n : Int) (d : ByteArray) : Bool := !(decide (a.toList = [])) && (!(decide (b.toList = [])) && (plB a 64 && (plB b 64 && (plB c 128 && (plB d 1024 && (decide (0 ≤ n) && decide (n ≤ 5)))))))
theorem ncheck_ev (a b c : ByteArray) (n : Int) (d : ByteArray) (ha : a.size ≤ 1073741824) (hb : b.size ≤ 1073741824) (hc : c.size ≤ 1073741824) (hd : d.size ≤ 1073741824) : Ev (fun k => norm_Check.f k a b c n d) (if evB a b c n d = true then 0 else 180) := by
  obtain ⟨K1, h1⟩ := plain_ev a 64 ha
  obtain ⟨K2, h2⟩ := plain_ev b 64 hb
  obtain ⟨K3, h3⟩ := plain_ev c 128 hc
  obtain ⟨K4, h4⟩ := plain_ev d 1024 hd
  refine ev_succ (K1 + K2 + K3 + K4) fun k hk => ?_
  simp only [norm_Check.f, norm_Check.j0, h1 (k + 1) (by omega), h2 (k + 1) (by omega), h3 k (by omega), h4 k (by omega), Option.bind_some, evB]
  by_cases e1 : a.toList = []
  · simp [e1]
  by_cases e2 : b.toList = []
  · simp [e1, e2]
  rcases (by omega : n < 0 ∨ 5 < n ∨ (0 ≤ n ∧ n ≤ 5)) with q | q | ⟨q, q'⟩
  · have r3 : ¬ (0 ≤ n) := by omega
    rcases Bool.eq_false_or_eq_true (plB a 64) with p1 | p1 <;> rcases Bool.eq_false_or_eq_true (plB b 64) with p2 | p2 <;> rcases Bool.eq_false_or_eq_true (plB c 128) with p3 | p3 <;> rcases Bool.eq_false_or_eq_true (plB d 1024) with p4 | p4 <;> simp [e1, e2, p1, p2, p3, p4, q, r3]
  · have r1 : ¬ (n < 0) := by omega
    have r2 : n > 5 := q
    have r4 : ¬ (n ≤ 5) := by omega
    rcases Bool.eq_false_or_eq_true (plB a 64) with p1 | p1 <;> rcases Bool.eq_false_or_eq_true (plB b 64) with p2 | p2 <;> rcases Bool.eq_false_or_eq_true (plB c 128) with p3 | p3 <;> rcases Bool.eq_false_or_eq_true (plB d 1024) with p4 | p4 <;> simp [e1, e2, p1, p2, p3, p4, q, r1, r2, r4]
  · have r1 : ¬ (n < 0) := by omega
    have r2 : ¬ (n > 5) := by omega
    have r5 : ¬ (5 < n) := by omega
    rcases Bool.eq_false_or_eq_true (plB a 64) with p1 | p1 <;> rcases Bool.eq_false_or_eq_true (plB b 64) with p2 | p2 <;> rcases Bool.eq_false_or_eq_true (plB c 128) with p3 | p3 <;> rcases Bool.eq_false_or_eq_true (plB d 1024) with p4 | p4 <;> simp [e1, e2, p1, p2, p3, p4, q, q', r1, r2, r5]
theorem rcheck18_ev (a b c : ByteArray) (n : Int) (d : ByteArray) (ha : a.size ≤ 1073741824) (hb : b.size ≤ 1073741824) (hc : c.size ≤ 1073741824) (hd : d.size ≤ 1073741824) : Ev (fun k => gongref18_Check.f k a b c n d) (if evB a b c n d = true then 0 else 180) := by
  obtain ⟨K1, h1⟩ := rplain_ev a 64 ha
  obtain ⟨K2, h2⟩ := rplain_ev b 64 hb
  obtain ⟨K3, h3⟩ := rplain_ev c 128 hc
  obtain ⟨K4, h4⟩ := rplain_ev d 1024 hd
  refine ⟨K1 + K2 + K3 + K4, fun k hk => ?_⟩
  simp only [gongref18_Check.f, h1 k (by omega), h2 k (by omega), h3 k (by omega), h4 k (by omega), Option.bind_some, evB]
  by_cases e1 : a.toList = []
  · simp [e1]
  by_cases e2 : b.toList = []
  · simp [e1, e2]
  rcases (by omega : n < 0 ∨ 5 < n ∨ (0 ≤ n ∧ n ≤ 5)) with q | q | ⟨q, q'⟩
  · have r3 : ¬ (0 ≤ n) := by omega
    rcases Bool.eq_false_or_eq_true (plB a 64) with p1 | p1 <;> rcases Bool.eq_false_or_eq_true (plB b 64) with p2 | p2 <;> rcases Bool.eq_false_or_eq_true (plB c 128) with p3 | p3 <;> rcases Bool.eq_false_or_eq_true (plB d 1024) with p4 | p4 <;> simp [e1, e2, p1, p2, p3, p4, q, r3]
  · have r1 : ¬ (n < 0) := by omega
    have r2 : n > 5 := q
    have r4 : ¬ (n ≤ 5) := by omega
    rcases Bool.eq_false_or_eq_true (plB a 64) with p1 | p1 <;> rcases Bool.eq_false_or_eq_true (plB b 64) with p2 | p2 <;> rcases Bool.eq_false_or_eq_true (plB c 128) with p3 | p3 <;> rcases Bool.eq_false_or_eq_true (plB d 1024) with p4 | p4 <;> simp [e1, e2, p1, p2, p3, p4, q, r1, r2, r4]
  · have r1 : ¬ (n < 0) := by omega
    have r2 : ¬ (n > 5) := by omega
    have r5 : ¬ (5 < n) := by omega
    rcases Bool.eq_false_or_eq_true (plB a 64) with p1 | p1 <;> rcases Bool.eq_false_or_eq_true (plB b 64) with p2 | p2 <;> rcases Bool.eq_false_or_eq_true (plB c 128) with p3 | p3 <;> rcases Bool.eq_false_or_eq_true (plB d 1024) with p4 | p4 <;> simp [e1, e2, p1, p2, p3, p4, q, q', r1, r2, r5]
def whoB (s : ByteArray) : Bool := !(decide (s.toList = [])) && plB s 64
theorem pl_ascii (b : UInt8) (h : 32 ≤ b.toNat ∧ b.toNat < 127) (m : Int) (hm : 1 ≤ m) : plB (⟨#[b]⟩ : ByteArray) m = true := by
  have hc : isC b.toNat := by unfold isC; omega
  have he : encs [b.toNat] = [b] := by rw [encs_cons, enc_u8 b (by omega)]; rfl
  have := chs_all [b.toNat] (by simpa using hc)
  rw [he] at this
  have e2 : chs (⟨#[b]⟩ : ByteArray).data.toList = some [b.toNat] := this
  unfold plB
  rw [e2]
  have hn : norm_plain.ctl (b.toNat : Int) = false := decide_eq_false (by omega)
  simp only [ints, List.map_cons, List.map_nil, List.any_cons, List.any_nil, hn, Bool.or_false, Bool.not_false, Bool.true_and]
  exact decide_eq_true (by show ((1 : Nat) : Int) ≤ m; omega)
theorem pl_empty (m : Int) (hm : 0 ≤ m) : plB (⟨#[]⟩ : ByteArray) m = true := by
  have e2 : chs (⟨#[]⟩ : ByteArray).data.toList = some [] := chs_nil
  unfold plB
  rw [e2]
  simp only [ints, List.map_nil, List.any_nil, Bool.not_false, Bool.true_and]
  exact decide_eq_true (by show ((0 : Nat) : Int) ≤ m; omega)
theorem who_one (s : ByteArray) (b : UInt8) (h : 32 ≤ b.toNat ∧ b.toNat < 127) : evB s (⟨#[b]⟩ : ByteArray) (⟨#[]⟩ : ByteArray) 0 (⟨#[]⟩ : ByteArray) = whoB s := by
  have hb : ¬ ((⟨#[b]⟩ : ByteArray).toList = []) := by rw [toList_L]; simp
  simp [evB, whoB, pl_ascii b h, pl_empty, hb]
theorem who_ev (s : ByteArray) (hs : s.size ≤ 1073741824) : Ev (fun k => board_isWho.f k s) (whoB s) := by
  unfold board_isWho.f
  refine Ev.bind (ncheck_ev s _ _ 0 _ hs (by decide) (by decide) (by decide)) ?_
  rw [who_one s 99 (by decide)]
  exact Ev.congr (f := fun _ => some (whoB s)) (fun k => by cases whoB s <;> rfl) (Ev.now _)
theorem rwho_ev (s : ByteArray) (hs : s.size ≤ 1073741824) : Ev (fun k => gongref20_IsWho.f k s) (whoB s) := by
  unfold gongref20_IsWho.f
  refine Ev.bind (rcheck18_ev s _ _ 0 _ hs (by decide) (by decide) (by decide)) ?_
  rw [who_one s 120 (by decide)]
  exact Ev.congr (f := fun _ => some (whoB s)) (fun k => by cases whoB s <;> rfl) (Ev.now _)
def timesB (f l : Int) : Bool := decide (0 ≤ f ∧ f ≤ 2305843009213693952 ∧ 0 ≤ l ∧ l ≤ 2305843009213693952 ∧ f ≤ l)
theorem times_f (f l : Int) (J : Bool → Option Int) : ((board_isTime.f f).bind fun t => (if t = true then ((board_isTime.f l).bind fun u => (if u = true then J (decide (f ≤ l)) else J false)) else J false)) = J (timesB f l) := by
  unfold board_isTime.f timesB
  by_cases z1 : f ≥ 0
  · by_cases z3 : f ≤ 2305843009213693952
    · by_cases z2 : l ≥ 0
      · by_cases z4 : l ≤ 2305843009213693952
        · simp [z1, z2, z3, z4, show 0 ≤ f from z1, show 0 ≤ l from z2]
        · simp [z1, z2, z3, z4]
      · simp [z1, z2, z3, show ¬ (0 ≤ l) from z2]
    · simp [z1, z3]
  · simp [z1, show ¬ (0 ≤ f) from z1]
def rowB (id : Int) (a b c : ByteArray) (n : Int) (d : ByteArray) (ta f l : Int) (ak : Bool) (y : ByteArray) : Bool :=
  !(decide (id < 1)) && (!(decide (n < 1)) && (!(decide (ta < 1)) && (!(decide (ta > 1099511627776)) && (timesB f l && ((if ak = true then whoB y else decide (y.toList = [])) && evB a b c n d)))))
theorem bcheck_ev (id : Int) (a b c : ByteArray) (n : Int) (d : ByteArray) (ta f l : Int) (ak : Bool) (y : ByteArray) (ha : a.size ≤ 1073741824) (hb : b.size ≤ 1073741824) (hc : c.size ≤ 1073741824) (hd : d.size ≤ 1073741824) (hy : y.size ≤ 1073741824) :
    Ev (fun k => board_Check.f k id a b c n d ta f l ak y) (if rowB id a b c n d ta f l ak y = true then 0 else 4) := by
  obtain ⟨K1, h1⟩ := ncheck_ev a b c n d ha hb hc hd
  obtain ⟨K2, h2⟩ := who_ev y hy
  refine ev_succ (K1 + K2) fun k hk => ?_
  unfold board_Check.f
  refine Eq.trans (times_f f l (fun T => board_Check.j0 (k + 1) T id a b c n d ta f l ak y)) ?_
  simp only [board_Check.j0, h1 k (by omega), h2 k (by omega), Option.bind_some, rowB]
  by_cases r1 : id < 1
  · cases ak <;> rcases Bool.eq_false_or_eq_true (whoB y) with p2 | p2 <;> simp [r1, p2]
  by_cases r2 : n < 1
  · cases ak <;> rcases Bool.eq_false_or_eq_true (whoB y) with p2 | p2 <;> simp [r1, r2, p2]
  by_cases r3 : ta < 1
  · cases ak <;> rcases Bool.eq_false_or_eq_true (whoB y) with p2 | p2 <;> simp [r1, r2, r3, p2]
  by_cases r4 : ta > 1099511627776
  · cases ak <;> rcases Bool.eq_false_or_eq_true (whoB y) with p2 | p2 <;> simp [r1, r2, r3, r4, p2]
  cases ak <;> rcases Bool.eq_false_or_eq_true (whoB y) with p2 | p2 <;> rcases Bool.eq_false_or_eq_true (evB a b c n d) with p1 | p1 <;> rcases Bool.eq_false_or_eq_true (timesB f l) with p4 | p4 <;> by_cases p3 : y.toList = [] <;> simp [r1, r2, r3, r4, p1, p2, p3, p4]
theorem rtimes_f (f l : Int) (J : Bool → Option Int) : ((gongref20_IsTime.f f).bind fun t => (if t = true then ((gongref20_IsTime.f l).bind fun u => (if u = true then J (decide (f > l)) else J true)) else J true)) = J (!(timesB f l)) := by
  unfold gongref20_IsTime.f timesB
  by_cases z1 : f ≥ 0
  · by_cases z3 : f ≤ 2305843009213693952
    · by_cases z2 : l ≥ 0
      · by_cases z4 : l ≤ 2305843009213693952
        · by_cases z5 : f ≤ l
          · simp [z1, z2, z3, z4, z5, show ¬ (f > l) by omega, show ¬ (l < f) by omega, show 0 ≤ f from z1, show 0 ≤ l from z2]
          · simp [z1, z2, z3, z4, z5, show f > l by omega, show l < f by omega]
        · simp [z1, z2, z3, z4]
      · simp [z1, z2, z3, show ¬ (0 ≤ l) from z2]
    · simp [z1, z3]
  · simp [z1, show ¬ (0 ≤ f) from z1]
theorem rshape (id n ta f l : Int) (E V : Bool) (J : Bool → Option Int) (hJ : ∀ T, J T = some (if T = true then 4 else if V = true then 0 else 4)) :
    (if id < 1 then J true else (if (if E = true then (0 : Int) else 180) = 0 then (if n < 1 then J true else (if ta < 1 then J true else (if ta > 1099511627776 then J true else ((gongref20_IsTime.f f).bind fun t => (if t = true then ((gongref20_IsTime.f l).bind fun u => (if u = true then J (decide (f > l)) else J true)) else J true))))) else J true)) =
      some (if (!(decide (id < 1)) && (!(decide (n < 1)) && (!(decide (ta < 1)) && (!(decide (ta > 1099511627776)) && (timesB f l && (V && E)))))) = true then 0 else 4) := by
  rw [rtimes_f f l J]
  simp only [hJ]
  by_cases r1 : id < 1
  · simp [r1]
  by_cases r2 : n < 1
  · cases E <;> simp [r1, r2]
  by_cases r3 : ta < 1
  · cases E <;> simp [r1, r2, r3]
  by_cases r4 : ta > 1099511627776
  · cases E <;> simp [r1, r2, r3, r4]
  cases E <;> cases V <;> cases timesB f l <;> simp [r1, r2, r3, r4]
theorem rcheck20_ev (id : Int) (a b c : ByteArray) (n : Int) (d : ByteArray) (ta f l : Int) (ak : Bool) (y : ByteArray) (ha : a.size ≤ 1073741824) (hb : b.size ≤ 1073741824) (hc : c.size ≤ 1073741824) (hd : d.size ≤ 1073741824) (hy : y.size ≤ 1073741824) :
    Ev (fun k => gongref20_Check.f k id a b c n d ta f l ak y) (if rowB id a b c n d ta f l ak y = true then 0 else 4) := by
  obtain ⟨K1, h1⟩ := rcheck18_ev a b c n d ha hb hc hd
  obtain ⟨K2, h2⟩ := rwho_ev y hy
  refine ev_succ (K1 + K2) fun k hk => ?_
  have hj : ∀ T, gongref20_Check.j0 (k + 1) T id a b c n d ta f l ak y = some (if T = true then 4 else if (if ak = true then whoB y else decide (y.toList = [])) = true then 0 else 4) := by
    intro T
    simp only [gongref20_Check.j0, h2 k (by omega), Option.bind_some]
    cases T <;> cases ak <;> rcases Bool.eq_false_or_eq_true (whoB y) with p2 | p2 <;> by_cases p3 : y.toList = [] <;> simp [p2, p3]
  unfold gongref20_Check.f
  simp only [h1 (k + 1) (by omega), Option.bind_some]
  exact rshape id n ta f l (evB a b c n d) _ (fun T => gongref20_Check.j0 (k + 1) T id a b c n d ta f l ak y) hj
def tkB (q w id : Int) (a b c : ByteArray) (n : Int) (d : ByteArray) (ta f l : Int) (ak : Bool) (y : ByteArray) : Bool :=
  !(decide (q < 1)) && (!(decide (q > 1152921504606846976)) && (!(decide (w < 1)) && (!(decide (w > 5)) && rowB id a b c n d ta f l ak y)))
theorem tcheck_ev (q w id : Int) (a b c : ByteArray) (n : Int) (d : ByteArray) (ta f l : Int) (ak : Bool) (y : ByteArray) (ha : a.size ≤ 1073741824) (hb : b.size ≤ 1073741824) (hc : c.size ≤ 1073741824) (hd : d.size ≤ 1073741824) (hy : y.size ≤ 1073741824) :
    Ev (fun k => ticket_Check.f k q w id a b c n d ta f l ak y) (if tkB q w id a b c n d ta f l ak y = true then 0 else 230) := by
  obtain ⟨K1, h1⟩ := bcheck_ev id a b c n d ta f l ak y ha hb hc hd hy
  refine ⟨K1, fun k hk => ?_⟩
  simp only [ticket_Check.f, h1 k hk, Option.bind_some, tkB]
  by_cases r1 : q < 1
  · simp [r1]
  by_cases r2 : q > 1152921504606846976
  · simp [r1, r2]
  by_cases r3 : w < 1
  · simp [r1, r2, r3]
  by_cases r4 : w > 5
  · simp [r1, r2, r3, r4]
  rcases Bool.eq_false_or_eq_true (rowB id a b c n d ta f l ak y) with p1 | p1 <;> simp [r1, r2, r3, r4, p1]
theorem rcheck_ev (q w id : Int) (a b c : ByteArray) (n : Int) (d : ByteArray) (ta f l : Int) (ak : Bool) (y : ByteArray) (ha : a.size ≤ 1073741824) (hb : b.size ≤ 1073741824) (hc : c.size ≤ 1073741824) (hd : d.size ≤ 1073741824) (hy : y.size ≤ 1073741824) :
    Ev (fun k => gongref23_Check.f k q w id a b c n d ta f l ak y) (if tkB q w id a b c n d ta f l ak y = true then 0 else 230) := by
  obtain ⟨K1, h1⟩ := rcheck20_ev id a b c n d ta f l ak y ha hb hc hd hy
  refine ⟨K1, fun k hk => ?_⟩
  simp only [gongref23_Check.f, h1 k hk, Option.bind_some, tkB]
  by_cases r1 : q < 1
  · simp [r1]
  by_cases r2 : q > 1152921504606846976
  · simp [r1, r2]
  by_cases r3 : w < 1
  · simp [r1, r2, r3]
  by_cases r4 : w > 5
  · simp [r1, r2, r3, r4]
  rcases Bool.eq_false_or_eq_true (rowB id a b c n d ta f l ak y) with p1 | p1 <;> simp [r1, r2, r3, r4, p1]
end Go.Proofs.YtipenplplmdclaaDoor.Tkt
end
section
namespace Go.Proofs.YtipenplplmdclaaDoor.Px
open Go.RowKit Go.Proofs.YtipenplplmdclaaDoorW.PrintWords Go.Proofs.YtipenplplmdclaaDoorW.PrintLast Go.Proofs.YtipenplplmdclaaDoorW.PrintMore
attribute [local go_sem] max2_int min2_int max_two min_two max_three min_three max_four min_four
set_option linter.unusedVariables false
set_option linter.unusedSimpArgs false
def IsS66 (w0 W : World) (g : Nat) (f0 : ByteArray) (f1 : Int) (f2 : Int) : Prop := W.heap[g]? = some (.cells #[.string f0, .int .i64 f1, .int .i64 f2] 66 (0, 0)) ∧ w0.heap.size ≤ g
theorem IsS66.grown {w0 W : World} {g : Nat} {f0 : ByteArray} {f1 : Int} {f2 : Int} {W1 : World} {row : Option Nat} (h : IsS66 w0 W g f0 f1 f2) (hw : W.grownBy W1 row) (hne : some g ≠ row) : IsS66 w0 W1 g f0 f1 f2 := by
  obtain ⟨hb, hg⟩ := h
  exact ⟨blk_grown hb hw hne, hg⟩
theorem IsS66.kept {w0 W : World} {g : Nat} {f0 : ByteArray} {f1 : Int} {f2 : Int} {W1 : World} {S : Nat → Prop} (h : IsS66 w0 W g f0 f1 f2) (hk : Kept W W1 S) (hne : ¬ S g) : IsS66 w0 W1 g f0 f1 f2 := by
  obtain ⟨hb, hg⟩ := h
  exact ⟨blk_kept hb hk hne, hg⟩
theorem IsS66.below {w0 W : World} {g : Nat} {f0 : ByteArray} {f1 : Int} {f2 : Int} {W1 : World} (h : IsS66 w0 W g f0 f1 f2) (hw : Below W.heap.size W W1) : IsS66 w0 W1 g f0 f1 f2 := h.grown (grown_of_below hw none) (by simp)
theorem IsS66.alloc {w0 W : World} {g : Nat} {f0 : ByteArray} {f1 : Int} {f2 : Int} (h : IsS66 w0 W g f0 f1 f2) (o : Obj) : IsS66 w0 (W.alloc o) g f0 f1 f2 := h.below (below_alloc (Below.refl _ _) o)
theorem IsS66.drewN {w0 W : World} {g : Nat} {f0 : ByteArray} {f1 : Int} {f2 : Int} (h : IsS66 w0 W g f0 f1 f2) (m : Nat) : IsS66 w0 (W.drewN m) g f0 f1 f2 := h
theorem IsS66.drew {w0 W : World} {g : Nat} {f0 : ByteArray} {f1 : Int} {f2 : Int} (h : IsS66 w0 W g f0 f1 f2) : IsS66 w0 W.drew g f0 f1 f2 := h
theorem IsS66.at_ {w0 W : World} {g : Nat} {f0 : ByteArray} {f1 : Int} {f2 : Int} {w' : World} {m : Nat} (hq : W.drewN m = w') (h : IsS66 w0 W g f0 f1 f2) : IsS66 w0 w' g f0 f1 f2 := by subst hq; exact IsS66.drewN h m
theorem IsS66.apart {w0 W : World} {g : Nat} {f0 : ByteArray} {f1 : Int} {f2 : Int} {α : Type} {d : Kd α} {e : Nat} {base : Nat} {ok : Nat → Prop} {v : Value} {xs : List α} (h : IsS66 w0 W g f0 f1 f2) (ho : d.R e W base ok v xs) (ht : ∀ q, q ∈ e :: d.E → q ≠ 66) : d.R e W base (fun k => ok k ∧ k ≠ g) v xs := by
  obtain ⟨hb, hg⟩ := h
  exact Kd.R_types ho hb ht
theorem IsS66.own_ne {w0 W : World} {g : Nat} {f0 : ByteArray} {f1 : Int} {f2 : Int} {α : Type} {d : Kd α} {e : Nat} {base : Nat} {ok : Nat → Prop} {v : Value} {xs : List α} (h : IsS66 w0 W g f0 f1 f2) (ho : d.R e W base ok v xs) (ht : e ≠ 66) : some g ≠ v.ownBlock := by
  obtain ⟨hb, hg⟩ := h
  exact Kd.R_ne ho hb ht
theorem IsS66.lt {w0 W : World} {g : Nat} {f0 : ByteArray} {f1 : Int} {f2 : Int} (h : IsS66 w0 W g f0 f1 f2) : g < W.heap.size := by
  obtain ⟨hb, hg⟩ := h
  exact blk_lt hb
theorem IsS66.ge {w0 W : World} {g : Nat} {f0 : ByteArray} {f1 : Int} {f2 : Int} (h : IsS66 w0 W g f0 f1 f2) : w0.heap.size ≤ g := by
  obtain ⟨hb, hg⟩ := h
  exact hg
theorem IsS66.set_0 {w0 W : World} {g : Nat} {f0 : ByteArray} {f1 : Int} {f2 : Int} (h : IsS66 w0 W g f0 f1 f2) (x : ByteArray) : IsS66 w0 (W.setCell ⟨g, 0, none⟩ (.string x)) g x f1 f2 := by
  obtain ⟨hb, hg⟩ := h
  exact ⟨by simpa using blk_set hb 0 (.string x), hg⟩
theorem IsS66.set_1 {w0 W : World} {g : Nat} {f0 : ByteArray} {f1 : Int} {f2 : Int} (h : IsS66 w0 W g f0 f1 f2) (x : Int) : IsS66 w0 (W.setCell ⟨g, 1, none⟩ (.int .i64 x)) g f0 x f2 := by
  obtain ⟨hb, hg⟩ := h
  exact ⟨by simpa using blk_set hb 1 (.int .i64 x), hg⟩
end Go.Proofs.YtipenplplmdclaaDoor.Px
end
section
namespace Go.Proofs.YtipenplplmdclaaDoor.OctF
open Go Go.RowKit Go.Proofs.YtipenplplmdclaaDoor.Px Go.Proofs.YtipenplplmdclaaDoorW.PrintWords Go.Proofs.YtipenplplmdclaaDoor.Str
def hi (n : Nat) : List UInt8 := if n = 0 then [] else hi (n / 128) ++ [UInt8.ofNat (n % 128 + 128)]
termination_by n
decreasing_by omega
def grp (n : Nat) : List UInt8 := hi (n / 128) ++ [UInt8.ofNat (n % 128)]
theorem hi_zero : hi 0 = [] := by rw [hi]; rfl
theorem hi_pos {n : Nat} (h : n ≠ 0) : hi n = hi (n / 128) ++ [UInt8.ofNat (n % 128 + 128)] := by
  rw [hi, if_neg h]
theorem toNat_ofNat {n : Nat} (h : n < 256) : (UInt8.ofNat n).toNat = n := by rw [UInt8.toNat_ofNat']; omega
theorem go_hi (f : Nat) : ∀ (n : Nat) (acc : List Int), n < 128 ^ f → (Oct.go f (n : Int) acc).map (fun n => UInt8.ofNat n.toNat) = hi n ++ acc.map (fun n => UInt8.ofNat n.toNat) := by
  induction f with
  | zero =>
    intro n acc h
    obtain rfl : n = 0 := by simpa using h
    rw [hi_zero]
    rfl
  | succ f ih =>
    intro n acc h
    by_cases h0 : n = 0
    · subst h0
      rw [show ((0 : Nat) : Int) = 0 from rfl, Oct.go_zero, hi_zero]
      rfl
    · rw [Oct.go_pos _ _ _ (by omega), show (n : Int) / 128 = ((n / 128 : Nat) : Int) by omega, ih (n / 128) _ (by rw [Nat.pow_succ] at h; omega), hi_pos h0, List.map_cons, List.append_assoc]
      congr 1
      rw [Oct.gB_eq]
      show _ = UInt8.ofNat (n % 128 + 128) :: _
      congr 2
theorem groups_ok (n : Nat) (h : n < 9223372036854775808) : octet_Groups.f (n : Int) = some (ofL (grp n), 0) := by
  unfold octet_Groups.f
  rw [if_neg (by omega), if_pos (by omega)]
  congr 2
  apply ext
  rw [nums_L, ofL_L]
  unfold Oct.groupsI
  rw [show (n : Int) / 128 = ((n / 128 : Nat) : Int) by omega, go_hi 8 (n / 128) _ (by omega)]
  unfold grp
  congr 1
theorem hi_length (d : Nat) : ∀ n, n < 128 ^ d → (hi n).length ≤ d := by
  induction d with
  | zero => intro n h; obtain rfl : n = 0 := by simpa using h
            rw [hi_zero]; simp
  | succ d ih =>
    intro n h
    by_cases h0 : n = 0
    · subst h0; rw [hi_zero]; simp
    · rw [hi_pos h0, List.length_append]
      have := ih (n / 128) (by rw [Nat.pow_succ] at h; omega)
      simp
      omega
theorem grp_length (n : Nat) (h : n < 9223372036854775808) : 1 ≤ (grp n).length ∧ (grp n).length ≤ 9 := by
  unfold grp
  have := hi_length 8 (n / 128) (by omega)
  simp
  omega
def be : Nat → Nat → List UInt8
  | 0, _ => []
  | w + 1, n => be w (n / 256) ++ [UInt8.ofNat n]
theorem text_ok (s : ByteArray) (h : s.size ≤ 1073741824) : octet_Text.f s = some (ofL (grp s.size ++ s.data.toList)) := by
  unfold octet_Text.f
  rw [groups_ok s.size (by omega)]
  simp only [Option.bind_some]
  have := grp_length s.size (by omega)
  rw [ofL_size, if_pos (by omega)]
  congr 1
def pg (most : Int) : Nat → Nat → List UInt8 → Nat → Int × Int × Int
  | 0, _, _, _ => (0, 0, 3)
  | _ + 1, _, [], _ => (0, 0, 10)
  | f + 1, n, b :: r, i => if i = 0 ∧ b.toNat = 128 then (0, 0, 3) else if ((n * 128 + b.toNat % 128 : Nat) : Int) > most then (0, 0, 2) else if b.toNat < 128 then (((n * 128 + b.toNat % 128 : Nat) : Int), ((i + 1 : Nat) : Int), 0) else pg most f (n * 128 + b.toNat % 128) r (i + 1)
theorem andNot_u8 : ∀ b : Fin 256, Go.bits .andNot .u8 (b.val : Int) 128 = ((b.val % 128 : Nat) : Int) := by decide +kernel
theorem join7 (n b : Nat) (hn : n < 72057594037927936) (hb : b < 256) : Go.bits .or .i64 (wrap64 ((n : Int) * 128)) (wrap64 (Go.bits .andNot .u8 (b : Int) 128)) = ((n * 128 + b % 128 : Nat) : Int) := by
  have h := andNot_u8 ⟨b, hb⟩
  simp only at h
  rw [h, wrap64_id (by omega) (by omega), wrap64_id (by omega) (by omega)]
  rw [bits_join .i64 63 (by decide) (fun n h0 h1 => by rw [IntKind.wrap_i64]; omega) 7 ((n : Int) * 128) ((b % 128 : Nat) : Int) (by omega) (by omega) (by omega) (by omega) (by omega) (by omega)]
  omega
theorem groups_l0 (s : ByteArray) (most : Int) (d : Nat) : ∀ (k i n : Nat), i + d = 9 → i ≤ s.size → n < 128 ^ i → 2 * d + 1 ≤ k → octet_groups.l0 k s most (n : Int) (i : Int) = some (pg most d n (s.data.toList.drop i) i) := by
  induction d with
  | zero =>
    intro k i n hi hle hn hk
    obtain ⟨k, rfl⟩ : ∃ m, k = m + 1 := ⟨k - 1, by omega⟩
    simp only [octet_groups.l0]
    rw [if_neg (by omega)]
    rfl
  | succ d ih =>
    intro k i n hi hle hn hk
    obtain ⟨k, rfl⟩ : ∃ m, k = m + 2 := ⟨k - 2, by omega⟩
    have hn8 : n < 72057594037927936 := Nat.lt_of_lt_of_le hn (Nat.le_trans (Nat.pow_le_pow_right (by decide) (show i ≤ 8 by omega)) (by decide))
    simp only [octet_groups.l0]
    rw [if_pos (by omega)]
    by_cases he : i = s.size
    · rw [if_pos (by omega), List.drop_of_length_le (by simp; omega)]
      rfl
    · have hlt : i < s.size := by omega
      have hd : s.data.toList.drop i = s.data.toList[i]'(by simpa using hlt) :: s.data.toList.drop (i + 1) := List.drop_eq_getElem_cons (by simpa using hlt)
      have hb : bt s (i : Int) = ((s.data.toList[i]'(by simpa using hlt)).toNat : Int) := by
        rw [bt_L hlt]
        simp [List.getD, hlt]
      generalize s.data.toList[i]'(by simpa using hlt) = b at hd hb
      have hbl := b.toNat_lt
      rw [if_neg (by omega), if_pos (by omega), if_pos (by omega), hd, hb, join7 n b.toNat hn8 (by omega), wrap64_id (by omega) (by omega)]
      have hn' : n * 128 + b.toNat % 128 < 128 ^ (i + 1) := by rw [Nat.pow_succ]; omega
      have hj : ∀ q : Bool, q = decide (i = 0 ∧ b.toNat = 128) → octet_groups.j1 (k + 1) s most ((n * 128 + b.toNat % 128 : Nat) : Int) ((i : Int) + 1) (b.toNat : Int) q = some (pg most (d + 1) n (b :: s.data.toList.drop (i + 1)) i) := by
        intro q hq
        subst hq
        simp only [octet_groups.j1, pg, decide_eq_true_eq]
        by_cases c1 : i = 0 ∧ b.toNat = 128
        · rw [if_pos c1, if_pos c1]
        · rw [if_neg c1, if_neg c1]
          by_cases c2 : ((n * 128 + b.toNat % 128 : Nat) : Int) > most
          · rw [if_pos c2, if_pos c2]
          · rw [if_neg c2, if_neg c2]
            by_cases c3 : b.toNat < 128
            · rw [if_pos (by omega), if_pos c3]
              rfl
            · rw [if_neg (by omega), if_neg c3]
              exact ih k (i + 1) _ (by omega) (by omega) hn' (by omega)
      by_cases h0 : i = 0
      · rw [if_pos (by omega)]
        refine hj _ ?_
        by_cases h128 : b.toNat = 128
        · rw [decide_eq_true ⟨h0, h128⟩, h128]
          decide
        · rw [decide_eq_false (fun z => h128 z.2), beq_eq_false_iff_ne]
          omega
      · rw [if_neg (by omega)]
        exact hj _ (decide_eq_false (fun z => h0 z.1)).symm
def rdG (most : Int) (l : List UInt8) : Int × Int × Int := pg most 9 0 l 0
theorem groups_read (s : ByteArray) (most : Int) (k : Nat) (hk : 19 ≤ k) : octet_groups.f k s most = some (rdG most s.data.toList) := by
  unfold octet_groups.f
  have := groups_l0 s most 9 k 0 0 rfl (Nat.zero_le _) (by decide) (by omega)
  simpa [rdG] using this
theorem pg_long (most : Int) (f : Nat) : ∀ (n : Nat) (l : List UInt8) (i : Nat), 0 ≤ (pg most f n l i).2.1 ∧ (pg most f n l i).2.1 ≤ ((i + l.length : Nat) : Int) ∧ ((pg most f n l i).2.2 ≠ 0 → (pg most f n l i).1 = 0 ∧ (pg most f n l i).2.1 = 0) ∧ 0 ≤ (pg most f n l i).1 ∧ 0 ≤ (pg most f n l i).2.2 := by
  induction f with
  | zero => intro n l i; simp [pg]; omega
  | succ f ih =>
    intro n l i
    cases l with
    | nil => simp [pg]
    | cons b r =>
      simp only [pg]
      split
      · simp; omega
      · split
        · simp; omega
        · split
          · simp only [List.length_cons]
            refine ⟨by omega, by omega, fun h => absurd rfl h, by omega, by omega⟩
          · have := ih (n * 128 + b.toNat % 128) r (i + 1)
            simp only [List.length_cons]
            refine ⟨this.1, by omega, this.2.2.1, this.2.2.2⟩
theorem rdG_long (most : Int) (l : List UInt8) : 0 ≤ (rdG most l).2.1 ∧ (rdG most l).2.1 ≤ (l.length : Int) ∧ ((rdG most l).2.2 ≠ 0 → (rdG most l).1 = 0 ∧ (rdG most l).2.1 = 0) ∧ 0 ≤ (rdG most l).1 ∧ 0 ≤ (rdG most l).2.2 := by
  have := pg_long most 9 0 l 0
  simpa [rdG] using this
theorem rGroups (s : ByteArray) (c most : Int) (k : Nat) (hk : 19 ≤ k) :
    octet_Reader_Groups.f k s c most = some (if c = 0 then ((rdG most s.data.toList).1, ofL (s.data.toList.drop (rdG most s.data.toList).2.1.toNat), (rdG most s.data.toList).2.2) else (0, s, c)) := by
  unfold octet_Reader_Groups.f
  by_cases hc : c = 0
  · rw [if_pos hc, if_pos hc, groups_read s most k hk]
    simp only [Option.bind_some]
    unfold octet_Reader_Refuse.f
    rw [if_pos hc]
    simp only [Option.bind_some]
    have h := rdG_long most s.data.toList
    rw [if_pos h.1, if_pos (by have := h.2.1; simpa using this)]
    congr 3
    apply ext
    rw [post_L, ofL_L]
  · rw [if_neg hc, if_neg hc]
end Go.Proofs.YtipenplplmdclaaDoor.OctF
end
