-- Laid by wip/hprint.py: the kit's print of the translation, turned in places, beside contracts that this session wrote by hand; Lean checks all of it.
import Derived.Test.YtnghebedingjaaaDoorPx0
import Derived.Test.YtnghebedingjaaaDoorPx1
import Derived.Test.YtnghebedingjaaaDoorPx3
namespace Go.Proofs.YtnghebedingjaaaDoor.Px
open Go.RowKit Go.Proofs.YtnghebedingjaaaDoorW.PrintWords Go.Proofs.YtnghebedingjaaaDoorW.PrintLast Go.Proofs.YtnghebedingjaaaDoorW.PrintMore
attribute [local go_sem] max2_int min2_int max_two min_two max_three min_three max_four min_four   -- for this text's walks alone
set_option linter.unusedVariables false
set_option linter.unusedSimpArgs false

/-! ### lex_Split: function 14, by hand -/
def lex_Split.go : Nat → ByteArray → Int → List S25 → Option (List S25 × Int × Int)
  | 0, _, _, _ => none
  | k + 1, s, ln, l => (lex_reader_skip.f s ln).bind fun x => if x.1.toList = ([] : List UInt8) then some (l, 0, 0) else
    (lex_reader_token.f x.1 x.2).bind fun t => if t.2.2.2.1 = false then some ([], t.2.2.2.2.2, 140) else if l.length = 4096 then some ([], t.2.2.2.2.2, 2) else
    if l.length < 4096 ∧ t.2.2.2.2.1.size < s.size then lex_Split.go k t.2.2.2.2.1 t.2.2.2.2.2 (l ++ [⟨t.1, t.2.1, t.2.2.1⟩]) else none
def lex_Split.f (a0 : ByteArray) : Option (List S25 × Int × Int) := if (a0.size : Int) > 65536 then some ([], 0, 2) else lex_Split.go (a0.size + 1) a0 1 []
theorem lex_Split.bound {n : Nat} {q : Prop} (h : n < 4096 ∧ q) : (n + 1) * 32 ≤ 140737488355328 := by omega
set_option maxHeartbeats 4000000 in
set_option maxRecDepth 100000 in
theorem lex_Split.calls (a0 : ByteArray) (r1 : List S25) (r2 r3 : Int) (w : World) (h : lex_Split.f a0 = some (r1, r2, r3)) :
    Calls Tryd.prog 14 #[.string a0] w fun e w' => ∃ v0_ : Value, e = .returned (.tuple #[v0_, .int .i64 r2, .int .i64 r3]) ∧ Kd.R k25 25 w' w.heap.size (fun _ => True) v0_ r1 ∧ Below w.heap.size w w' := by
  unfold lex_Split.f at h
  by_cases hl : (a0.size : Int) > 65536
  · rw [if_pos hl] at h
    simp only [Option.some.injEq, Prod.mk.injEq] at h
    obtain ⟨rfl, rfl, rfl⟩ := h
    have c0 : decide ((a0.size : Int) > 65536) = true := decide_eq_true hl
    have c1 : decide (65536 < a0.size) = true := decide_eq_true (by omega)
    go_enter Tryd.func14, Tryd.ntmps14
    go_wp2_with fail
    go_ret3
    exact ⟨_, rfl, Kd.R_nil _ _ _ _ _, Below.refl _ _⟩
  · rw [if_neg hl] at h
    have c0 : decide ((a0.size : Int) > 65536) = false := decide_eq_false hl
    have c1 : decide (65536 < a0.size) = false := decide_eq_false (by omega)
    have H0 := Lib.hid h
    clear h hl
    have HI0 := Aside0.mk (IsS54.new w w a0 1 (Below.refl _ _))
    have HB0 := Aside0.mk ((Below.refl w.heap.size w).alloc (Nat.le_refl _) (.cells #[.string a0, .int .i64 1] 54))
    go_enter Tryd.func14, Tryd.ntmps14
    go_wp2_with fail
    go_loopw [2] (fun v2 wr => ∃ (s : ByteArray) (ln : Int) (l : List S25) (k : Nat), Hid (lex_Split.go k s ln l = some (r1, r2, r3)) ∧ Aside0 (Kd.R k25 25 wr w.heap.size (fun k => k ≠ w.heap.size) v2 l) ∧ Aside0 (IsS54 w wr w.heap.size s ln) ∧ Aside0 (Below w.heap.size w wr)) (fun _ wr => lex_reader_skip.len w.heap.size wr)
    case atStart => exact ⟨a0, 1, [], _, H0, ⟨Kd.R_nil _ _ _ _ _⟩, HI0, HB0⟩
    case round =>
      obtain ⟨s, ln, l, k, HG, HR, HI, HB⟩ := hrel
      clear H0 HI0 HB0
      have hgo := HG.out
      cases k with
      | zero => simp [lex_Split.go] at hgo
      | succ k =>
      rw [lex_Split.go] at hgo
      clear HG
      obtain ⟨⟨x1, x2⟩, hx, hgo⟩ := Option.bind_eq_some_iff.mp hgo
      simp only at hgo
      have HX := Lib.hid hx
      have HG := Lib.hid hgo
      have HL := Lib.hid (lex_reader_skip.len_eq HI.out)
      clear hx hgo
      obtain ⟨A2, c2, hv2⟩ := Kd.R_slice HR.out
      subst hv2
      clear c0 c1
      go_upto_region 5 with (first | (go_at_call 28; refine (lex_reader_skip.calls w.heap.size s ln x1 x2 w _ HI.out HB.out HX.out).mono ?_; rintro e W2 ⟨rfl, hi2, hb2, hk2⟩; have R2 := Aside0.mk (Kd.R_keep HR.out hk2 (fun _ h => h)); have I2 := Aside0.mk hi2; have B2 := Aside0.mk hb2; clear hi2 hb2 hk2))
      clear HR HI HB
      have k0 : W2.cell? ⟨w.heap.size, 0, none⟩ = some (.string x1) := by rw [Lib.cell_of_heap I2.out.1]; rfl
      have hgo := HG.out
      clear HG
      by_cases cx : x1.toList = ([] : List UInt8)
      · rw [if_pos cx] at hgo
        simp only [Option.some.injEq, Prod.mk.injEq] at hgo
        obtain ⟨rfl, rfl, rfl⟩ := hgo
        have cb : (x1.toList == ([] : List UInt8)) = true := beq_iff_eq.mpr cx
        clear cx
        go_wp2_with fail
        go_ret3
        exact ⟨_, rfl, Kd.R_mono R2.out (fun _ _ => trivial), B2.out⟩
      · rw [if_neg cx] at hgo
        have cb : (x1.toList == ([] : List UInt8)) = false := beq_eq_false_iff_ne.mpr cx
        clear cx
        obtain ⟨⟨t1, t2, t3, t4, t5, t6⟩, ht, hgo⟩ := Option.bind_eq_some_iff.mp hgo
        simp only at hgo
        have HT := Lib.hid ht
        have HG := Lib.hid hgo
        clear ht hgo
        go_upto_block 2 with (first | (go_at_call 22; refine (lex_reader_token.calls w.heap.size x1 x2 t1 t2 t3 t4 t5 t6 w _ I2.out B2.out HT.out).mono ?_; rintro e W3 ⟨rfl, hi3, hb3, hk3⟩; have R3 := Aside0.mk (Kd.R_keep R2.out hk3 (fun _ h => h)); have I3 := Aside0.mk hi3; have B3 := Aside0.mk hb3; clear hi3 hb3 hk3))
        have k1 : W3.cell? ⟨w.heap.size, 1, none⟩ = some (.int .i64 t6) := by rw [Lib.cell_of_heap I3.out.1]; rfl
        have k2 : (W3.alloc (.cells #[.int .i64 t1, .string t2, .int .i64 t3] 25)).cell? ⟨w.heap.size, 1, none⟩ = some (.int .i64 t6) := by rw [Lib.cell_of_heap (I3.out.alloc (.cells #[.int .i64 t1, .string t2, .int .i64 t3] 25)).1]; rfl
        have hgo := HG.out
        clear HG k0
        by_cases h4 : t4 = false
        · rw [if_pos h4] at hgo
          simp only [Option.some.injEq, Prod.mk.injEq] at hgo
          obtain ⟨rfl, rfl, rfl⟩ := hgo
          subst h4
          go_upto_region 9 with (fail)
          go_region
          go_wp2_with fail
          go_ret3
          exact ⟨_, rfl, Kd.R_nil _ _ _ _ _, by with_reducible repeat (first | exact B3.out | apply pw_below_drewN | apply below_drew1 | apply below_alloc)⟩
        · obtain rfl : t4 = true := by simpa using h4
          rw [if_neg (by simp)] at hgo
          clear h4
          by_cases h5 : l.length = 4096
          · rw [if_pos h5] at hgo
            simp only [Option.some.injEq, Prod.mk.injEq] at hgo
            obtain ⟨rfl, rfl, rfl⟩ := hgo
            have c5 : ((l.length : Int) == 4096) = true := beq_iff_eq.mpr (by omega)
            clear h5
            go_upto_region 11 with (fail)
            go_region
            go_wp2_with fail
            go_ret3
            exact ⟨_, rfl, Kd.R_nil _ _ _ _ _, by with_reducible repeat (first | exact B3.out | apply pw_below_drewN | apply below_drew1 | apply below_alloc)⟩
          · rw [if_neg h5] at hgo
            by_cases h6 : l.length < 4096 ∧ t5.size < s.size
            case neg => rw [if_neg h6] at hgo; cases hgo
            rw [if_pos h6] at hgo
            have c5 : ((l.length : Int) == 4096) = false := beq_eq_false_iff_ne.mpr (by omega)
            have HG := Lib.hid hgo
            have HS := Lib.hid h6
            clear hgo h5 h6
            go_upto_region 12 with (fail)
            have hbx := heap_alloc_new W3 (Obj.cells #[.int .i64 t1, .string t2, .int .i64 t3] 25)
            have b0 := Lib.cell_of_heap hbx 0
            have b1 := Lib.cell_of_heap hbx 1
            have b2 := Lib.cell_of_heap hbx 2
            have i25 : (Tryd.prog.info? 25).map (fun i => (i.zero, i.size, i.bytes)) = some (some (.agg #[(.int .i64 0), (.string ⟨#[]⟩), (.int .i64 0)]), 3, 32) := by kernel_rfl
            have hlt3 := blk_lt I3.out.1
            have R4 := Aside0.mk (Kd.R_alloc R3.out (Obj.cells #[.int .i64 t1, .string t2, .int .i64 t3] 25))
            have I4 := Aside0.mk (I3.out.alloc (Obj.cells #[.int .i64 t1, .string t2, .int .i64 t3] 25))
            have B4 := Aside0.mk (below_alloc B3.out (Obj.cells #[.int .i64 t1, .string t2, .int .i64 t3] 25))
            have hsz4 : w.heap.size < (W3.alloc (Obj.cells #[.int .i64 t1, .string t2, .int .i64 t3] 25)).heap.size := by simp; omega
            go_wp2_with (first | ((with_reducible refine gate_builtin (b := .append) (xs := #[.tmp 42, .tmp 44]) rfl ?_); at_builtin; refine Kd.R_append k25 (w0 := w) w.heap.size rfl (.tmp 42) (.tmp 44) 22 25 (.agg #[(.int .i64 0), (.string ⟨#[]⟩), (.int .i64 0)]) 32 rfl Tryd.underlying22 i25 rfl (by decide) (by omega) (.slice A2 l.length c2) l (⟨t1, t2, t3⟩ : S25) [.int .i64 t1, .string t2, .int .i64 t3] (fun k_ => k_ ≠ w.heap.size) (fun _ => False) rfl (by first | (go_simp; done) | (go_simp; rfl)) ?aP (fun _ hk => hk.elim) ?aF ?aO ?aB ?aS ?aL ?_; (case aP => exact k25_mkM _ _ _ (⟨t1, t2, t3⟩ : S25)); (case aF => exact fun k_ hk => Nat.ne_of_gt (Nat.lt_of_lt_of_le hsz4 hk)); (case aO => exact R4.out); (case aB => exact B4.out); (case aS => exact Nat.le_of_lt hsz4); (case aL => exact lex_Split.bound HS.out); intro v1 w5 ho hb hg hat))
            have hI5 : IsS54 w w5 w.heap.size t5 t6 := ⟨(hg.block _ hsz4 (Kd.R_away R4.out (fun _ h => h))).trans I4.out.1, Nat.le_refl _⟩
            exact ⟨⟨t5, t6, _, k, HG, ⟨ho⟩, ⟨hI5⟩, ⟨hb⟩⟩, by rw [HL.out, lex_reader_skip.len_eq hI5]; exact HS.out.2⟩

/-! ### gonglaw14_works: function 7 -/
mutual
def gonglaw14_works.j0 : Nat → List (S25) → Bool → Option (Bool)
  | 0, _, _ => none
  | k + 1, x1, x17 => if x17 = true then (some false) else ((some (([1, 1, 5, 3, 5] : List Int) : List Int)).bind fun y115 => (gonglaw14_works.l0 k x1 y115 (y115.length : Int) 0))
def gonglaw14_works.l0 : Nat → List (S25) → List Int → Int → Int → Option (Bool)
  | 0, _, _, _, _ => none
  | k + 1, x1, x18, x19, x20 => if x20 < x19 then (if 0 ≤ x20 then (if x20 < (x18.length : Int) then (if x20 < (x1.length : Int) then (if ((rd_T25 x1 x20).f0) = (rd x18 x20) then (if ((rd_T25 x1 x20).f2) = 1 then (gonglaw14_works.l0 k x1 x18 x19 (wrap64 (x20 + 1))) else (some false)) else (some false)) else (none)) else (none)) else (none)) else (if 3 < (x1.length : Int) then (some (((rd_T25 x1 3).f1).toList == ([104, 111, 115, 116] : List UInt8))) else (none))
end
def gonglaw14_works.f (k : Nat)  : Option (Bool) := (lex_Split.f (⟨#[115, 101, 116, 32, 110, 111, 100, 101, 32, 61, 32, 36, 104, 111, 115, 116, 59, 32, 35, 32, 97, 32, 114, 101, 109, 97, 114, 107]⟩ : ByteArray)).bind fun bt110 => (if bt110.2.2 = 0 then (gonglaw14_works.j0 k bt110.1 ((bt110.1.length : Int) != 5)) else (gonglaw14_works.j0 k bt110.1 true))
theorem gonglaw14_works.mono_l : ∀ k, (∀ y0 y1, LeO (gonglaw14_works.j0 k y0 y1) (gonglaw14_works.j0 (k + 1) y0 y1)) ∧ (∀ y0 y1 y2 y3, LeO (gonglaw14_works.l0 k y0 y1 y2 y3) (gonglaw14_works.l0 (k + 1) y0 y1 y2 y3))
  | 0 => ⟨fun _ _ r h => by simp [gonglaw14_works.j0] at h, fun _ _ _ _ r h => by simp [gonglaw14_works.l0] at h⟩
  | k + 1 => by
    obtain ⟨ih0, ih1⟩ := gonglaw14_works.mono_l k
    refine ⟨?_, ?_⟩
    · intro y0 y1
      unfold gonglaw14_works.j0
      repeat' first
      | (with_reducible exact ih0 _ _)
      | (with_reducible exact ih1 _ _ _ _)
      | (with_reducible exact LeO.refl _)
      | (with_reducible exact LeO.none _)
      | (with_reducible refine LeO.ite ?_ ?_)
      | (with_reducible refine LeO.bind ?_ (fun _ => ?_))
      | exact ih0 _ _
      | exact ih1 _ _ _ _
      | exact LeO.none _
      | refine LeO.ite ?_ ?_
      | refine LeO.bind ?_ (fun _ => ?_)
    · intro y0 y1 y2 y3
      unfold gonglaw14_works.l0
      repeat' first
      | (with_reducible exact ih0 _ _)
      | (with_reducible exact ih1 _ _ _ _)
      | (with_reducible exact LeO.refl _)
      | (with_reducible exact LeO.none _)
      | (with_reducible refine LeO.ite ?_ ?_)
      | (with_reducible refine LeO.bind ?_ (fun _ => ?_))
      | exact ih0 _ _
      | exact ih1 _ _ _ _
      | exact LeO.none _
      | refine LeO.ite ?_ ?_
      | refine LeO.bind ?_ (fun _ => ?_)
theorem gonglaw14_works.mono : ∀ k, LeO (gonglaw14_works.f k ) (gonglaw14_works.f (k + 1) ) := by
  intro  k
  obtain ⟨ih0, ih1⟩ := gonglaw14_works.mono_l k
  unfold gonglaw14_works.f
  repeat' first
      | (with_reducible exact ih0 _ _)
      | (with_reducible exact ih1 _ _ _ _)
      | (with_reducible exact LeO.refl _)
      | (with_reducible exact LeO.none _)
      | (with_reducible refine LeO.ite ?_ ?_)
      | (with_reducible refine LeO.bind ?_ (fun _ => ?_))
      | exact ih0 _ _
      | exact ih1 _ _ _ _
      | exact LeO.none _
      | refine LeO.ite ?_ ?_
      | refine LeO.bind ?_ (fun _ => ?_)
set_option maxHeartbeats 8000000 in
set_option maxRecDepth 100000 in
theorem gonglaw14_works.calls (k : Nat)  (r : Bool) (w : World) (h : gonglaw14_works.f k  = some r) :
    Calls Tryd.prog 7 #[] w fun e w' => e = .returned (.bool r) ∧ Below w.heap.size w w' := by
  have HB := Aside0.mk (Below.refl w.heap.size w)
  have H : ((lex_Split.f (⟨#[115, 101, 116, 32, 110, 111, 100, 101, 32, 61, 32, 36, 104, 111, 115, 116, 59, 32, 35, 32, 97, 32, 114, 101, 109, 97, 114, 107]⟩ : ByteArray)).bind fun bt110 => (if bt110.2.2 = 0 then (gonglaw14_works.j0 k bt110.1 ((bt110.1.length : Int) != 5)) else (gonglaw14_works.j0 k bt110.1 true))) = some r := h
  clear h
  replace H := Option.bind_eq_some_iff.mp H
  obtain ⟨⟨t110, t111, t112⟩, A10, H⟩ := H
  replace H : (if t112 = 0 then (gonglaw14_works.j0 k t110 ((t110.length : Int) != 5)) else (gonglaw14_works.j0 k t110 true)) = some r := H
  have A1 := Aside0.mk A10
  clear A10
  have HC2 := Aside0.mk H
  clear H
  go_enter Tryd.func7, Tryd.ntmps7
  go_upto_region 2 with (first | ((with_reducible refine gate_callee (f := 14) rfl ?_); refine goesL_ (some 7) rfl rfl Tryd.func14 (by kernel_rfl) rfl #[.string (⟨#[115, 101, 116, 32, 110, 111, 100, 101, 32, 61, 32, 36, 104, 111, 115, 116, 59, 32, 35, 32, 97, 32, 114, 101, 109, 97, 114, 107]⟩ : ByteArray)] rfl (by (try simp only [List.map_toArray, List.map_cons, List.map_nil]); first | done | rfl | (simp only [List.length_drop, List.length_take]; rfl)) ?_; (with_reducible refine (lex_Split.calls (⟨#[115, 101, 116, 32, 110, 111, 100, 101, 32, 61, 32, 36, 104, 111, 115, 116, 59, 32, 35, 32, 97, 32, 114, 101, 109, 97, 114, 107]⟩ : ByteArray) t110 t111 t112 _ A1.out).mono ?_); rintro e w3 ⟨v113, rfl, ho0, hb⟩; refine ⟨_, rfl, ?_⟩; have n0_ := Aside0.mk (Kd.R_lower ho0 (below_size (by repeat (first | (with_reducible first | exact HB.out | apply below_alloc | apply pw_below_drewN | apply below_drew1) | exact HB.out)))); have n1_ := Aside0.mk (below_step (by repeat (first | (with_reducible first | exact HB.out | apply below_alloc | apply pw_below_drewN | apply below_drew1) | exact HB.out)) hb); clear HB; have HO114 := n0_; have HB := n1_; clear n0_ n1_; (try clear hb); (try clear hb2); (try clear hk); (try clear hi); (try clear ho0)))
  (try simp only [Act.put, List.setIfInBounds_toArray, List.set_cons_zero, List.set_cons_succ])
  go_cut [17] (fun v17 wc => ∃ (kq : Nat) (x17_1 : Bool), v17 = .bool x17_1 ∧ Aside0 (gonglaw14_works.j0 kq t110 x17_1 = some r) ∧ Aside0 (kq ≤ k) ∧ Aside0 (Kd.R k25 25 wc w.heap.size (fun _ => True) v113 t110) ∧ Aside0 (Below w.heap.size w wc))
  case first =>
    have H := HC2.out
    clear HC2
    by_cases c4 : t112 = 0
    · rw [if_pos c4] at H
      have c4b0 : (t112 == 0) = true := beq_iff_eq.mpr c4
      have c4b1 : (t112 != 0) = false := bne_eq_false_iff_eq.mpr c4
      clear c4
      (first | rw [c4b0] | (simp only [i64_w, i32_w]; rw [c4b0]) | skip)
      have H' := Aside0.mk H
      clear H
      obtain ⟨Ao5, co5, eo5⟩ := Kd.R_slice HO114.out
      subst eo5
      go_wp2
      go_meet
      case rel => exact ⟨_, (((t110.length : Int) != 5)), (by first | rfl | (simp; done) | (simp [*]; done)), H', ⟨by first | omega | exact Nat.le_refl _⟩, ⟨by (with_reducible repeat (first | apply Kd.R_alloc | apply Kd.R_drewN | apply Kd.R_drew)); exact HO114.out⟩, ⟨by repeat (first | (with_reducible first | exact HB.out | apply below_alloc | apply pw_below_drewN | apply below_drew1) | exact HB.out)⟩⟩
    · rw [if_neg c4] at H
      have c4b0 : (t112 == 0) = false := beq_eq_false_iff_ne.mpr c4
      have c4b1 : (t112 != 0) = true := bne_iff_ne.mpr c4
      (first | rw [c4b0] | (simp only [i64_w, i32_w]; rw [c4b0]) | skip)
      have H' := Aside0.mk H
      clear H
      go_wp2
      go_meet
      case rel => exact ⟨_, (true), (by first | rfl | (simp; done) | (simp [*]; done)), H', ⟨by first | omega | exact Nat.le_refl _⟩, ⟨by (with_reducible repeat (first | apply Kd.R_alloc | apply Kd.R_drewN | apply Kd.R_drew)); exact HO114.out⟩, ⟨by repeat (first | (with_reducible first | exact HB.out | apply below_alloc | apply pw_below_drewN | apply below_drew1) | exact HB.out)⟩⟩
  case rest =>
    clear HC2
    try clear c1
    try clear p2
    try clear c4
    try clear c4b0
    try clear c4b1
    obtain ⟨kq, x17_1, rfl, HA, HJ1, HO_1, HB⟩ := hcut
    cases kq with
    | zero => exact absurd HA.out (by simp [gonglaw14_works.j0])
    | succ kj1 =>
      have H := HA.out
      clear HA
      simp only [gonglaw14_works.j0] at H
      by_cases c6 : x17_1 = true
      · subst c6
        have H1 : (some false) = some r := by rw [if_pos rfl] at H; exact H
        clear H
        have H := H1
        clear H1
        obtain rfl := Option.some.inj H
        go_wp2
        go_ret
        exact ⟨by first | rfl | (simp [errW_none, errW_some] <;> rfl) | (simp [*, errW_none, errW_some] <;> rfl), by repeat (first | (with_reducible first | exact HB.out | apply below_alloc | apply pw_below_drewN | apply below_drew1) | exact HB.out)⟩
      · replace c6 := Bool.eq_false_iff.mpr c6
        subst c6
        have H1 : ((some (([1, 1, 5, 3, 5] : List Int) : List Int)).bind fun y115 => (gonglaw14_works.l0 kj1 t110 y115 (y115.length : Int) 0)) = some r := by rw [if_neg (show ¬ (false = true) by decide)] at H; exact H
        clear H
        have H := H1
        clear H1
        obtain ⟨y115, hy115⟩ : ∃ y_ : List Int, y_ = (([1, 1, 5, 3, 5] : List Int)) := ⟨_, rfl⟩
        replace H : (gonglaw14_works.l0 kj1 t110 y115 (y115.length : Int) 0) = some r := by first | (rw [hy115]; with_reducible exact H) | (have H2_ := (Option.bind_some _ _).symm.trans H; rw [hy115]; with_reducible exact H2_) | (have H2_ := (Option.bind_some _ _).symm.trans H; with_reducible exact H2_) | with_reducible exact H | (rw [hy115]; exact H) | exact H
        have Ny115 := Aside0.mk hy115
        clear hy115
        have H' := Aside0.mk H
        clear H
        go_wp2_with (first | ((with_reducible refine gate_dst (N := 18) rfl ?_); (try (refine gate_guard (by rfl) ?_; dsimp only)); refine Kd.R_lit (Kd.int .i64) _ 3 ?hg (N := 18) ?hd (xs := ([1, 1, 5, 3, 5] : List Int)) (inner := [.int .i64 1, .int .i64 1, .int .i64 5, .int .i64 3, .int .i64 5]) (ok := fun _ => True) (okp := fun _ => True) ?hr ?hp (fun _ hk => hk) trivial (Below.refl _ _) (Nat.le_refl _) (by simp) ?_; (case hd => rfl); (case hg => rfl); (case hr => first | (go_simp; done) | (go_simp; rfl)); (case hp => exact (Reps.one (show Kd.M (Kd.int .i64) _ _ _ 1 [.int .i64 1] from rfl) (Reps.one (show Kd.M (Kd.int .i64) _ _ _ 1 [.int .i64 1] from rfl) (Reps.one (show Kd.M (Kd.int .i64) _ _ _ 5 [.int .i64 5] from rfl) (Reps.one (show Kd.M (Kd.int .i64) _ _ _ 3 [.int .i64 3] from rfl) (Reps.one (show Kd.M (Kd.int .i64) _ _ _ 5 [.int .i64 5] from rfl) (Reps.none _ _))))))); intro v116 w7 ho8 hb hg_ hnew_; clear hg_ hnew_; (first | rw [← Ny115.out] at ho8 | (simp only [Int.reduceToNat] at ho8; rw [← Ny115.out] at ho8)); have n0_ := Aside0.mk (Kd.R_below (by (with_reducible repeat (first | apply Kd.R_alloc | apply Kd.R_drewN | apply Kd.R_drew)); exact HO_1.out) hb); have n1_ := Aside0.mk (Kd.R_lower ho8 (below_size (by repeat (first | (with_reducible first | exact HB.out | apply below_alloc | apply pw_below_drewN | apply below_drew1) | exact HB.out)))); have n2_ := Aside0.mk (below_step (by repeat (first | (with_reducible first | exact HB.out | apply below_alloc | apply pw_below_drewN | apply below_drew1) | exact HB.out)) hb); clear HO_1; clear HB; have HO_1 := n0_; have HO117 := n1_; have HB := n2_; clear n0_ n1_ n2_; clear hb ho8; obtain ⟨Ao9, co9, eo9⟩ := Kd.R_slice HO117.out; subst eo9))
        go_loopg [20] kj1 (fun kq v20 w' => ∃ (x20_2 : Int), v20 = .int .i64 x20_2 ∧ Aside0 (gonglaw14_works.l0 kq t110 y115 (y115.length : Int) x20_2 = some r) ∧ Aside0 (kq ≤ kj1) ∧ Aside0 (Kd.R k25 25 w' w.heap.size (fun _ => True) v113 t110) ∧ Aside0 (Kd.R (Kd.int .i64) 3 w' w.heap.size (fun _ => True) (.slice Ao9 y115.length co9) y115) ∧ Aside0 (Below w.heap.size w w'))
        case atStart => exact ⟨(0), (by first | rfl | (simp; done) | (simp [*]; done)), H', ⟨Nat.le_refl _⟩, ⟨by (with_reducible repeat (first | apply Kd.R_alloc | apply Kd.R_drewN | apply Kd.R_drew)); exact HO_1.out⟩, ⟨by (with_reducible repeat (first | apply Kd.R_alloc | apply Kd.R_drewN | apply Kd.R_drew)); exact HO117.out⟩, ⟨by repeat (first | (with_reducible first | exact HB.out | apply below_alloc | apply pw_below_drewN | apply below_drew1) | exact HB.out)⟩⟩
        case round =>
          clear H'
          try clear c1
          try clear p2
          try clear c4
          try clear c4b0
          try clear c4b1
          try clear c6
          try clear c7
          try clear p2
          obtain ⟨x20_2, rfl, HA, HK2, HO_1, HO_18, HB⟩ := hrel
          cases gk with
          | zero => exact absurd HA.out (by simp [gonglaw14_works.l0])
          | succ k2 =>
            have H := HA.out
            clear HA
            simp only [gonglaw14_works.l0] at H
            by_cases c10 : x20_2 < (y115.length : Int)
            · rw [if_pos c10] at H
              have c10b0 : decide (x20_2 < (y115.length : Int)) = true := decide_eq_true c10
              clear c10
              by_cases c11 : 0 ≤ x20_2
              · rw [if_pos c11] at H
                have c11b0 : decide (0 ≤ x20_2) = true := decide_eq_true c11
                clear c11
                by_cases c12 : x20_2 < (y115.length : Int)
                · rw [if_pos c12] at H
                  have c12b0 : decide (x20_2 < (y115.length : Int)) = true := decide_eq_true c12
                  clear c12
                  by_cases c13 : x20_2 < (t110.length : Int)
                  · rw [if_pos c13] at H
                    have c13b0 : decide (x20_2 < (t110.length : Int)) = true := decide_eq_true c13
                    clear c13
                    by_cases c14 : ((rd_T25 t110 x20_2).f0) = (rd y115 x20_2)
                    · rw [if_pos c14] at H
                      have c14b0 : (((rd_T25 t110 x20_2).f0) == (rd y115 x20_2)) = true := beq_iff_eq.mpr c14
                      have c14b1 : (((rd_T25 t110 x20_2).f0) != (rd y115 x20_2)) = false := bne_eq_false_iff_eq.mpr c14
                      clear c14
                      by_cases c15 : ((rd_T25 t110 x20_2).f2) = 1
                      · rw [if_pos c15] at H
                        have c15b0 : (((rd_T25 t110 x20_2).f2) == 1) = true := beq_iff_eq.mpr c15
                        have c15b1 : (((rd_T25 t110 x20_2).f2) != 1) = false := bne_eq_false_iff_eq.mpr c15
                        clear c15
                        have H' := Aside0.mk H
                        clear H
                        have p118 : 0 ≤ (x20_2 : Int) := of_decide_eq_true (by first | (with_reducible assumption) | assumption)
                        have q118 : x20_2 < (y115.length : Int) := of_decide_eq_true (by first | (with_reducible assumption) | assumption)
                        obtain ⟨ad118, e118, hx118_0⟩ := Kd.at_int (Kd.R_reads' HO_18.out).2.2 x20_2 p118 q118
                        cases e118
                        replace p118 := eq_true p118
                        replace q118 := eq_true q118
                        obtain ⟨Ao16, co16, eo16⟩ := Kd.R_slice HO_1.out
                        subst eo16
                        have p119 : 0 ≤ (x20_2 : Int) := of_decide_eq_true (by first | (with_reducible assumption) | assumption)
                        have q119 : x20_2 < (t110.length : Int) := of_decide_eq_true (by first | (with_reducible assumption) | assumption)
                        obtain ⟨ad119, e119, hx119_0, hx119_1, hx119_2⟩ := at_T25 (Kd.R_reads' HO_1.out).2.2 x20_2 p119 q119
                        cases e119
                        replace p119 := eq_true p119
                        replace q119 := eq_true q119
                        have p120 : 0 ≤ (x20_2 : Int) := of_decide_eq_true (by first | (with_reducible assumption) | assumption)
                        have q120 : x20_2 < (t110.length : Int) := of_decide_eq_true (by first | (with_reducible assumption) | assumption)
                        obtain ⟨ad120, e120, hx120_0, hx120_1, hx120_2⟩ := at_T25 (Kd.R_reads' HO_1.out).2.2 x20_2 p120 q120
                        obtain rfl : ad119 = ad120 := (by injection e120)
                        replace p120 := eq_true p120
                        replace q120 := eq_true q120
                        go_wp2
                        go_roundg k2
                        case measure => have := HJ1.out; have := HK2.out; omega
                        case rel => exact ⟨(wrap64 (x20_2 + 1)), (by first | rfl | (simp; done) | (simp [*]; done)), H', ⟨by have := HJ1.out; have := HK2.out; omega⟩, ⟨by (with_reducible repeat (first | apply Kd.R_alloc | apply Kd.R_drewN | apply Kd.R_drew)); exact HO_1.out⟩, ⟨by (with_reducible repeat (first | apply Kd.R_alloc | apply Kd.R_drewN | apply Kd.R_drew)); exact HO_18.out⟩, ⟨by repeat (first | (with_reducible first | exact HB.out | apply below_alloc | apply pw_below_drewN | apply below_drew1) | exact HB.out)⟩⟩
                      · rw [if_neg c15] at H
                        have c15b0 : (((rd_T25 t110 x20_2).f2) == 1) = false := beq_eq_false_iff_ne.mpr c15
                        have c15b1 : (((rd_T25 t110 x20_2).f2) != 1) = true := bne_iff_ne.mpr c15
                        obtain rfl := Option.some.inj H
                        have p118 : 0 ≤ (x20_2 : Int) := of_decide_eq_true (by first | (with_reducible assumption) | assumption)
                        have q118 : x20_2 < (y115.length : Int) := of_decide_eq_true (by first | (with_reducible assumption) | assumption)
                        obtain ⟨ad118, e118, hx118_0⟩ := Kd.at_int (Kd.R_reads' HO_18.out).2.2 x20_2 p118 q118
                        cases e118
                        replace p118 := eq_true p118
                        replace q118 := eq_true q118
                        obtain ⟨Ao17, co17, eo17⟩ := Kd.R_slice HO_1.out
                        subst eo17
                        have p119 : 0 ≤ (x20_2 : Int) := of_decide_eq_true (by first | (with_reducible assumption) | assumption)
                        have q119 : x20_2 < (t110.length : Int) := of_decide_eq_true (by first | (with_reducible assumption) | assumption)
                        obtain ⟨ad119, e119, hx119_0, hx119_1, hx119_2⟩ := at_T25 (Kd.R_reads' HO_1.out).2.2 x20_2 p119 q119
                        cases e119
                        replace p119 := eq_true p119
                        replace q119 := eq_true q119
                        have p120 : 0 ≤ (x20_2 : Int) := of_decide_eq_true (by first | (with_reducible assumption) | assumption)
                        have q120 : x20_2 < (t110.length : Int) := of_decide_eq_true (by first | (with_reducible assumption) | assumption)
                        obtain ⟨ad120, e120, hx120_0, hx120_1, hx120_2⟩ := at_T25 (Kd.R_reads' HO_1.out).2.2 x20_2 p120 q120
                        obtain rfl : ad119 = ad120 := (by injection e120)
                        replace p120 := eq_true p120
                        replace q120 := eq_true q120
                        go_wp2
                        go_ret
                        exact ⟨by first | rfl | (simp [errW_none, errW_some] <;> rfl) | (simp [*, errW_none, errW_some] <;> rfl), by repeat (first | (with_reducible first | exact HB.out | apply below_alloc | apply pw_below_drewN | apply below_drew1) | exact HB.out)⟩
                    · rw [if_neg c14] at H
                      have c14b0 : (((rd_T25 t110 x20_2).f0) == (rd y115 x20_2)) = false := beq_eq_false_iff_ne.mpr c14
                      have c14b1 : (((rd_T25 t110 x20_2).f0) != (rd y115 x20_2)) = true := bne_iff_ne.mpr c14
                      obtain rfl := Option.some.inj H
                      have p118 : 0 ≤ (x20_2 : Int) := of_decide_eq_true (by first | (with_reducible assumption) | assumption)
                      have q118 : x20_2 < (y115.length : Int) := of_decide_eq_true (by first | (with_reducible assumption) | assumption)
                      obtain ⟨ad118, e118, hx118_0⟩ := Kd.at_int (Kd.R_reads' HO_18.out).2.2 x20_2 p118 q118
                      cases e118
                      replace p118 := eq_true p118
                      replace q118 := eq_true q118
                      obtain ⟨Ao18, co18, eo18⟩ := Kd.R_slice HO_1.out
                      subst eo18
                      have p119 : 0 ≤ (x20_2 : Int) := of_decide_eq_true (by first | (with_reducible assumption) | assumption)
                      have q119 : x20_2 < (t110.length : Int) := of_decide_eq_true (by first | (with_reducible assumption) | assumption)
                      obtain ⟨ad119, e119, hx119_0, hx119_1, hx119_2⟩ := at_T25 (Kd.R_reads' HO_1.out).2.2 x20_2 p119 q119
                      cases e119
                      replace p119 := eq_true p119
                      replace q119 := eq_true q119
                      go_wp2
                      go_ret
                      exact ⟨by first | rfl | (simp [errW_none, errW_some] <;> rfl) | (simp [*, errW_none, errW_some] <;> rfl), by repeat (first | (with_reducible first | exact HB.out | apply below_alloc | apply pw_below_drewN | apply below_drew1) | exact HB.out)⟩
                  · rw [if_neg c13] at H
                    exact absurd H (by simp)
                · rw [if_neg c12] at H
                  exact absurd H (by simp)
              · rw [if_neg c11] at H
                exact absurd H (by simp)
            · rw [if_neg c10] at H
              have c10b0 : decide (x20_2 < (y115.length : Int)) = false := decide_eq_false c10
              clear c10
              by_cases c19 : 3 < (t110.length : Int)
              · rw [if_pos c19] at H
                have c19b0 : decide (3 < (t110.length : Int)) = true := decide_eq_true c19
                have c19b1 : decide (3 < t110.length) = true := decide_eq_true (by omega)
                clear c19
                obtain rfl := Option.some.inj H
                obtain ⟨Ao20, co20, eo20⟩ := Kd.R_slice HO_1.out
                subst eo20
                have p121 : 0 ≤ (3 : Int) := (by omega)
                have q121 : 3 < (t110.length : Int) := of_decide_eq_true (by first | (with_reducible assumption) | assumption)
                obtain ⟨ad121, e121, hx121_0, hx121_1, hx121_2⟩ := at_T25 (Kd.R_reads' HO_1.out).2.2 3 p121 q121
                cases e121
                (try simp only [show (3 : Int).toNat = 3 from rfl, Nat.reduceMul, Nat.reduceEqDiff, Go.Addr.add, ↓reduceIte] at hx121_0)
                (try simp only [show (3 : Int).toNat = 3 from rfl, Nat.reduceMul, Nat.reduceEqDiff, Go.Addr.add, ↓reduceIte] at hx121_1)
                (try simp only [show (3 : Int).toNat = 3 from rfl, Nat.reduceMul, Nat.reduceEqDiff, Go.Addr.add, ↓reduceIte] at hx121_2)
                have qi121 : (3 < t110.length) = True := eq_true (by omega)
                (try rw [show ((3 : Int)).toNat = 3 from rfl] at hx121_0)
                (try rw [show 3 * 3 = 9 from rfl] at hx121_0)
                (try rw [show ((3 : Int)).toNat = 3 from rfl] at hx121_1)
                (try rw [show 3 * 3 = 9 from rfl] at hx121_1)
                (try rw [show ((3 : Int)).toNat = 3 from rfl] at hx121_2)
                (try rw [show 3 * 3 = 9 from rfl] at hx121_2)
                replace p121 := eq_true p121
                replace q121 := eq_true q121
                go_wp2
                go_ret
                exact ⟨by first | rfl | (simp [errW_none, errW_some] <;> rfl) | (simp [*, errW_none, errW_some] <;> rfl), by repeat (first | (with_reducible first | exact HB.out | apply below_alloc | apply pw_below_drewN | apply below_drew1) | exact HB.out)⟩
              · rw [if_neg c19] at H
                exact absurd H (by simp)

-- NOT PRINTED: function 23 (strings_Builder_WriteString)

/-! ### lex_Quote: function 11, by hand -/
theorem lex_Quote.low : ∀ b : Fin 256, bits BinOp.and IntKind.u8 (b.val : Int) 15 = ((b.val % 16 : Nat) : Int) := by decide +kernel
def lex_Quote.dig : ByteArray := ⟨#[48, 49, 50, 51, 52, 53, 54, 55, 56, 57, 97, 98, 99, 100, 101, 102]⟩
def lex_Quote.dg (n : Nat) : UInt8 := lex_Quote.dig.data.toList.getD n 0
def lex_Quote.hex (y : UInt8) : List UInt8 := [92, 120, lex_Quote.dg (y.toNat / 16), lex_Quote.dg (y.toNat % 16)]
def lex_Quote.one (y : UInt8) : List UInt8 :=
  if (y.toNat : Int) = 34 ∨ (y.toNat : Int) = 92 then [92, y] else if (y.toNat : Int) = 10 then [92, 110] else if (y.toNat : Int) = 9 then [92, 116]
  else if (y.toNat : Int) < 32 ∨ (y.toNat : Int) ≥ 127 then lex_Quote.hex y else [y]
def lex_Quote.all (l : List UInt8) : List UInt8 := 34 :: l.flatMap lex_Quote.one
def lex_Quote.f (a0 : ByteArray) : Option ByteArray := if a0.size ≤ 1073741824 then some ⟨(lex_Quote.all a0.data.toList ++ [34]).toArray⟩ else none
theorem lex_Quote.one_length (y : UInt8) : (lex_Quote.one y).length ≤ 4 := by
  unfold lex_Quote.one lex_Quote.hex
  repeat' split
  all_goals simp
theorem lex_Quote.all_length (l : List UInt8) : (lex_Quote.all l).length ≤ 1 + 4 * l.length := by
  unfold lex_Quote.all
  rw [List.length_cons]
  have : (l.flatMap lex_Quote.one).length ≤ 4 * l.length := by
    induction l with
    | nil => simp
    | cons a l ih => rw [List.flatMap_cons, List.length_append, List.length_cons]; have := lex_Quote.one_length a; omega
  omega
theorem lex_Quote.all_snoc (l : List UInt8) (i : Nat) (hi : i < l.length) : lex_Quote.all (l.take (i + 1)) = lex_Quote.all (l.take i) ++ lex_Quote.one (l.getD i 0) := by
  unfold lex_Quote.all
  rw [List.take_succ_eq_append_getElem hi, List.flatMap_append, List.flatMap_singleton, List.cons_append, List.getD_eq_getElem?_getD, List.getElem?_eq_getElem hi, Option.getD_some]
theorem lex_Quote.hexed (y : UInt8) (i j : Nat) (hi : i = y.toNat / 16) (hj : j = y.toNat % 16) (pi : i < lex_Quote.dig.size) (pj : j < lex_Quote.dig.size) :
    (⟨#[92, 120]⟩ : ByteArray) ++ strOfNums [((lex_Quote.dig[i]'pi).toNat : Int), ((lex_Quote.dig[j]'pj).toNat : Int)] = ⟨(lex_Quote.hex y).toArray⟩ := by
  subst hi
  subst hj
  have ei : lex_Quote.dig[y.toNat / 16]'pi = lex_Quote.dg (y.toNat / 16) := by
    unfold lex_Quote.dg
    rw [List.getD_eq_getElem?_getD, List.getElem?_eq_getElem (by simpa using pi), Option.getD_some]
    rfl
  have ej : lex_Quote.dig[y.toNat % 16]'pj = lex_Quote.dg (y.toNat % 16) := by
    unfold lex_Quote.dg
    rw [List.getD_eq_getElem?_getD, List.getElem?_eq_getElem (by simpa using pj), Option.getD_some]
    rfl
  rw [ei, ej]
  unfold lex_Quote.hex
  apply Str.ext
  rw [Str.app_L]
  simp [strOfNums]
set_option maxHeartbeats 4000000 in
set_option maxRecDepth 100000 in
theorem lex_Quote.calls (a0 : ByteArray) (r : ByteArray) (w : World) (h : lex_Quote.f a0 = some r) :
    Calls Tryd.prog 11 #[.string a0] w fun e w' => e = .returned (.string r) ∧ Below w.heap.size w w' := by
  unfold lex_Quote.f at h
  by_cases hs : a0.size ≤ 1073741824
  case neg => rw [if_neg hs] at h; cases h
  rw [if_pos hs] at h
  injection h with h
  have HR := Lib.hid h
  clear h
  go_enter Tryd.func11, Tryd.ntmps11
  go_wp2_with fail
  refine (Bld.writeByte2 w.heap.size w.heap.size [] 34 _ (Lib.fresh_isBuilder _ _ w) (by simp) (by simp)).mono ?_
  rintro e w1 ⟨rfl, hi1, hb1, _⟩
  have hbb := ((Below.refl w.heap.size w).alloc (Nat.le_refl _) _).trans hb1
  clear hb1
  have kc := Lib.run_convert_string_bytes (P := Tryd.prog) w1 9 48 5 a0 Tryd.underlying9 Tryd.underlying48 Tryd.underlying5
  have hcells := fun j hj => Lib.bytesWorld_cell w1 5 a0 j hj
  have hbel := Go.Proofs.YtnghebedingjaaaDoor.BR.bytesWorld_below w1 5 a0
  have hap := Bld.apart_next hi1 (fun k hk => Lib.bytesWorld_at_old w1 5 a0 k hk) (by rw [Lib.bytesWorld_size]; omega)
  have hi2 := Bld.move hi1 (fun k hk => Lib.bytesWorld_at_old w1 5 a0 k hk)
  have hb2 := hbb.trans (hbel.mono hbb.size)
  generalize hF : w1.heap.size = F at kc hcells hap
  generalize Lib.bytesWorld w1 5 a0 = W2 at kc hcells hbel hap hi2 hb2
  generalize grownCap w1 a0.size 0 5 = c0 at kc
  have HI := Aside0.mk hi2
  have HA := Aside0.mk hap
  have HC := Aside0.mk hcells
  have HB := Aside0.mk hb2
  clear hi1 hbb hbel hi2 hap hcells hb2 hF
  go_wp2_with fail
  go_loopw [10] (fun v wr => ∃ i : Nat, v = .int .i64 i ∧ i ≤ a0.size ∧ Aside0 (Lib.IsBuilder Bld.T 5 w.heap.size w.heap.size (Lib.byteCells (lex_Quote.all (a0.data.toList.take i))) wr) ∧ Aside0 (Bld.Apart w.heap.size F wr) ∧ Aside0 (wr.heap[F]? = W2.heap[F]?) ∧ Aside0 (Below w.heap.size w wr)) (fun v _ => match v with | .int _ n => a0.size - n.toNat | _ => 0)
  case atStart => exact ⟨0, rfl, Nat.zero_le _, HI, HA, ⟨rfl⟩, HB⟩
  case round =>
    obtain ⟨i, rfl, hi, HI', HA', HF', HB'⟩ := hrel
    clear HI HA HB
    have hw : w.heap.size ≤ wr.heap.size := HB'.out.size
    have hal := lex_Quote.all_length (a0.data.toList.take i)
    rw [List.length_take] at hal
    have hsz : (Lib.byteCells (lex_Quote.all (a0.data.toList.take i))).length + 10 ≤ 140737488355328 := by rw [Lib.byteCells_length]; omega
    clear hal
    have HSZ := Lib.hid hsz
    clear hsz
    by_cases hlt : i < a0.size
    · have hlt' : (i : Int) < (a0.size : Int) := by omega
      have hcell : wr.cell? ⟨F, i, none⟩ = some (.int .u8 ((a0.data.toList.getD i 0).toNat : Int)) := by
        have := HC.out i hlt
        rw [World.cell?] at this ⊢
        rw [HF'.out]
        exact this
      have hsn := lex_Quote.all_snoc a0.data.toList i (by simpa using hlt)
      have hlen2 : a0.size - (i + 1) < a0.size - i := by omega
      generalize hy : a0.data.toList.getD i 0 = y at hcell hsn
      have hyb := y.toNat_lt
      have HS := Lib.hid hsn
      clear hsn hy
      have FIN := Lib.hid (show ∀ (X : List UInt8) (W : World), lex_Quote.one y = X → Lib.IsBuilder Bld.T 5 w.heap.size w.heap.size (Lib.byteCells (lex_Quote.all (a0.data.toList.take i)) ++ Lib.byteCells X) W → Lib.IsBuilder Bld.T 5 w.heap.size w.heap.size (Lib.byteCells (lex_Quote.all (a0.data.toList.take (i + 1)))) W from fun X W e h => by rw [HS.out, Lib.byteCells_append, e]; exact h)
      clear HS
      go_upto_block 2 with (fail)
      clear hcell
      by_cases d34 : (y.toNat : Int) = 34
      · have E := Lib.hid (show lex_Quote.one y = [92, y] by unfold lex_Quote.one; rw [if_pos (.inl d34)])
        have c34 : ((y.toNat : Int) == 34) = true := beq_iff_eq.mpr d34
        clear d34
        go_wp2_with fail
        refine (Bld.writeByte2 w.heap.size w.heap.size (Lib.byteCells (lex_Quote.all (a0.data.toList.take i))) 92 _ HI'.out (by have := HSZ.out; omega) (by exact hw)).mono ?_
        rintro e w3 ⟨rfl, hi3, hb3, hst3⟩
        have hw3 : w.heap.size ≤ w3.heap.size := Nat.le_trans hw hb3.size
        have I3 := Aside0.mk hi3
        have B3 := Aside0.mk hb3
        have S3 := Aside0.mk hst3
        clear hi3 hb3 hst3
        go_wp2_with fail
        refine (Bld.writeByte2 w.heap.size w.heap.size ((Lib.byteCells (lex_Quote.all (a0.data.toList.take i))) ++ [.int .u8 92]) (y.toNat : Int) _ I3.out (by have := HSZ.out; simp only [List.length_append, List.length_cons, List.length_nil]; omega) (by exact hw3)).mono ?_
        rintro e w' ⟨rfl, hi, hb, hst2⟩
        have hst := S3.out.trans hst2
        have hB := B3.out.trans hb
        go_wp2_with fail
        exact ⟨⟨i + 1, by push_cast; rfl, hlt, ⟨FIN.out _ _ E.out (by rw [List.append_assoc] at hi; exact hi)⟩, ⟨(hst.2 F HA'.out).1⟩, ⟨(hst.2 F HA'.out).2.trans HF'.out⟩, ⟨HB'.out.trans hB⟩⟩, by show a0.size - (((i : Int) + 1)).toNat < a0.size - ((i : Int)).toNat; omega⟩
      have c34 : ((y.toNat : Int) == 34) = false := beq_eq_false_iff_ne.mpr d34
      by_cases d92 : (y.toNat : Int) = 92
      · have E := Lib.hid (show lex_Quote.one y = [92, y] by unfold lex_Quote.one; rw [if_pos (.inr d92)])
        have c92 : ((y.toNat : Int) == 92) = true := beq_iff_eq.mpr d92
        clear d92 d34
        go_wp2_with fail
        refine (Bld.writeByte2 w.heap.size w.heap.size (Lib.byteCells (lex_Quote.all (a0.data.toList.take i))) 92 _ HI'.out (by have := HSZ.out; omega) (by exact hw)).mono ?_
        rintro e w3 ⟨rfl, hi3, hb3, hst3⟩
        have hw3 : w.heap.size ≤ w3.heap.size := Nat.le_trans hw hb3.size
        have I3 := Aside0.mk hi3
        have B3 := Aside0.mk hb3
        have S3 := Aside0.mk hst3
        clear hi3 hb3 hst3
        go_wp2_with fail
        refine (Bld.writeByte2 w.heap.size w.heap.size ((Lib.byteCells (lex_Quote.all (a0.data.toList.take i))) ++ [.int .u8 92]) (y.toNat : Int) _ I3.out (by have := HSZ.out; simp only [List.length_append, List.length_cons, List.length_nil]; omega) (by exact hw3)).mono ?_
        rintro e w' ⟨rfl, hi, hb, hst2⟩
        have hst := S3.out.trans hst2
        have hB := B3.out.trans hb
        go_wp2_with fail
        exact ⟨⟨i + 1, by push_cast; rfl, hlt, ⟨FIN.out _ _ E.out (by rw [List.append_assoc] at hi; exact hi)⟩, ⟨(hst.2 F HA'.out).1⟩, ⟨(hst.2 F HA'.out).2.trans HF'.out⟩, ⟨HB'.out.trans hB⟩⟩, by show a0.size - (((i : Int) + 1)).toNat < a0.size - ((i : Int)).toNat; omega⟩
      have c92 : ((y.toNat : Int) == 92) = false := beq_eq_false_iff_ne.mpr d92
      by_cases d10 : (y.toNat : Int) = 10
      · have E := Lib.hid (show lex_Quote.one y = [92, 110] by unfold lex_Quote.one; rw [if_neg (by omega), if_pos d10])
        have c10 : ((y.toNat : Int) == 10) = true := beq_iff_eq.mpr d10
        clear d10 d34 d92
        go_wp2_with fail
        refine (Bld.write2 w.heap.size w.heap.size (Lib.byteCells (lex_Quote.all (a0.data.toList.take i))) ⟨#[92, 110]⟩ _ HI'.out (by have := HSZ.out; have e : (⟨#[92, 110]⟩ : ByteArray).size = 2 := rfl; omega) (by exact hw)).mono ?_
        rintro e w' ⟨rfl, hi, hb, hst⟩
        go_wp2_with fail
        exact ⟨⟨i + 1, by push_cast; rfl, hlt, ⟨FIN.out _ _ E.out hi⟩, ⟨(hst.2 F HA'.out).1⟩, ⟨(hst.2 F HA'.out).2.trans HF'.out⟩, ⟨HB'.out.trans hb⟩⟩, by show a0.size - (((i : Int) + 1)).toNat < a0.size - ((i : Int)).toNat; omega⟩
      have c10 : ((y.toNat : Int) == 10) = false := beq_eq_false_iff_ne.mpr d10
      by_cases d9 : (y.toNat : Int) = 9
      · have E := Lib.hid (show lex_Quote.one y = [92, 116] by unfold lex_Quote.one; rw [if_neg (by omega), if_neg d10, if_pos d9])
        have c9 : ((y.toNat : Int) == 9) = true := beq_iff_eq.mpr d9
        clear d9 d34 d92 d10
        go_wp2_with fail
        refine (Bld.write2 w.heap.size w.heap.size (Lib.byteCells (lex_Quote.all (a0.data.toList.take i))) ⟨#[92, 116]⟩ _ HI'.out (by have := HSZ.out; have e : (⟨#[92, 116]⟩ : ByteArray).size = 2 := rfl; omega) (by exact hw)).mono ?_
        rintro e w' ⟨rfl, hi, hb, hst⟩
        go_wp2_with fail
        exact ⟨⟨i + 1, by push_cast; rfl, hlt, ⟨FIN.out _ _ E.out hi⟩, ⟨(hst.2 F HA'.out).1⟩, ⟨(hst.2 F HA'.out).2.trans HF'.out⟩, ⟨HB'.out.trans hb⟩⟩, by show a0.size - (((i : Int) + 1)).toNat < a0.size - ((i : Int)).toNat; omega⟩
      have c9 : ((y.toNat : Int) == 9) = false := beq_eq_false_iff_ne.mpr d9
      by_cases dc : (y.toNat : Int) < 32 ∨ (y.toNat : Int) ≥ 127
      · have E := Lib.hid (show lex_Quote.one y = lex_Quote.hex y by unfold lex_Quote.one; rw [if_neg (by omega), if_neg d10, if_neg d9, if_pos dc])
        have q0 : (0 : Int) ≤ (y.toNat : Int) := by omega
        have q1 : (0 : Int) ≤ ((y.toNat : Int) / 16) := by omega
        have q2 : (y.toNat : Int) / 16 < 16 := by omega
        have q5 := lex_Quote.low ⟨y.toNat, hyb⟩
        have q3 : (0 : Int) ≤ bits BinOp.and IntKind.u8 (y.toNat : Int) 15 := by simp only at q5; omega
        have q4 : bits BinOp.and IntKind.u8 (y.toNat : Int) 15 < 16 := by simp only at q5; omega
        have H5 := Lib.hid q5
        have cc : (decide ((y.toNat : Int) < 32) = true ∧ True) ∨ (decide ((y.toNat : Int) < 32) = false ∧ decide ((y.toNat : Int) ≥ 127) = true) := by
          rcases dc with h | h
          · exact .inl ⟨decide_eq_true h, trivial⟩
          · exact .inr ⟨decide_eq_false (by omega), decide_eq_true h⟩
        clear q5 dc d34 d92 d10 d9
        go_upto_region 14 with (fail)
        go_cut [34] (fun v34 wc => v34 = .bool true ∧ wr = wc)
        case first =>
          rcases cc with ⟨e1, _⟩ | ⟨e1, e2⟩
          · go_upto_if 34 with (fail)
            go_meet
            case rel => exact ⟨rfl, rfl⟩
          · go_upto_if 34 with (fail)
            go_meet
            case rel => exact ⟨rfl, rfl⟩
        case rest =>
        obtain ⟨rfl, rfl⟩ := hcut
        clear cc
        go_upto_region 15 with (fail)
        go_still_tail 6, (by kernel_rfl)
        change wpList _ _ _ _ _ wr.drew
        go_wp2_with fail
        have key : ∀ (x1 x2 : Int), (convert 48 9 (.slice (some ⟨wr.heap.size, 0, none⟩) 2 2)).run Tryd.prog ((wr.alloc (Obj.cells #[.int .u8 x1, .int .u8 x2] 5)).drew) = .ok (.string (strOfNums [x1, x2])) ((wr.alloc (Obj.cells #[.int .u8 x1, .int .u8 x2] 5)).drew) := by
          intro x1 x2
          have hroom : Go.Proofs.YtnghebedingjaaaDoor.Oct.Room ((wr.alloc (Obj.cells #[.int .u8 x1, .int .u8 x2] 5)).drew) wr.heap.size 5 2 0 [x1, x2] := ⟨_, heap_alloc_new wr _, rfl, by decide, rfl⟩
          exact hroom.text 48 5 Tryd.underlying48 Tryd.underlying5 9 Tryd.underlying9 2 2 rfl
        rw [key]
        simp only [Result.andThen]
        rw [Oper.upon_value]
        go_wp2_with fail
        have hx := lex_Quote.hexed y (y.toNat / 16) (y.toNat % 16) rfl rfl (by show _ < 16; omega) (by show _ < 16; omega)
        unfold lex_Quote.dig at hx
        rw [hx]
        refine (Bld.write2 w.heap.size w.heap.size (Lib.byteCells (lex_Quote.all (a0.data.toList.take i))) ⟨(lex_Quote.hex y).toArray⟩ _ (Bld.drew (Bld.alloc HI'.out _)) (by have := HSZ.out; have e : (⟨(lex_Quote.hex y).toArray⟩ : ByteArray).size = 4 := rfl; omega) (by simp; omega)).mono ?_
        rintro e w' ⟨rfl, hi, hb, hst⟩
        have HA2 := fun (o : Obj) => Bld.Apart.drew (Bld.Apart.alloc HA'.out HI'.out o)
        have hF2 := (hst.2 F (HA2 _)).2.trans ((Lib.alloc_old wr _ F HA'.out.2.1).trans HF'.out)
        have hA3 := (hst.2 F (HA2 _)).1
        have HB3 := Aside0.mk ((below_drew1 (HB'.out.alloc hw _)).trans hb)
        have A3 := Aside0.mk hA3
        have F3 := Aside0.mk hF2
        clear HA2 hst hb hA3 hF2 key hx
        go_wp2_with fail
        exact ⟨⟨i + 1, by push_cast; rfl, hlt, ⟨FIN.out _ _ E.out hi⟩, A3, F3, HB3⟩, by show a0.size - (((i : Int) + 1)).toNat < a0.size - ((i : Int)).toNat; omega⟩
      · have E := Lib.hid (show lex_Quote.one y = [y] by unfold lex_Quote.one; rw [if_neg (by omega), if_neg d10, if_neg d9, if_neg dc])
        have e1 : decide ((y.toNat : Int) < 32) = false := decide_eq_false (by omega)
        have e2 : decide ((y.toNat : Int) ≥ 127) = false := decide_eq_false (by omega)
        clear dc d34 d92 d10 d9
        go_wp2_with fail
        refine (Bld.writeByte2 w.heap.size w.heap.size (Lib.byteCells (lex_Quote.all (a0.data.toList.take i))) (y.toNat : Int) _ HI'.out (by have := HSZ.out; omega) (by exact hw)).mono ?_
        rintro e w' ⟨rfl, hi, hb, hst⟩
        go_wp2_with fail
        exact ⟨⟨i + 1, by push_cast; rfl, hlt, ⟨FIN.out _ _ E.out hi⟩, ⟨(hst.2 F HA'.out).1⟩, ⟨(hst.2 F HA'.out).2.trans HF'.out⟩, ⟨HB'.out.trans hb⟩⟩, by show a0.size - (((i : Int) + 1)).toNat < a0.size - ((i : Int)).toNat; omega⟩
    · obtain rfl : i = a0.size := by omega
      have ht : a0.data.toList.take a0.size = a0.data.toList := List.take_of_length_le (by simp)
      rw [ht] at HI' HSZ
      go_wp2_with fail
      refine (Bld.writeByte2 w.heap.size w.heap.size (Lib.byteCells (lex_Quote.all a0.data.toList)) 34 _ HI'.out (by have := HSZ.out; omega) (by exact hw)).mono ?_
      rintro e w4 ⟨rfl, hi4, hb4, _⟩
      have hb5 := HB'.out.trans hb4
      go_wp2_with fail
      refine (Tryd.Builder_String_any w.heap.size w.heap.size (lex_Quote.all a0.data.toList ++ [34]) _ (by rw [Lib.byteCells_append]; exact hi4) hb5.size).mono ?_
      rintro e w6 ⟨rfl, hb6⟩
      go_wp2_with fail
      go_ret
      exact ⟨by rw [HR.out]; rfl, hb5.trans hb6⟩

end Go.Proofs.YtnghebedingjaaaDoor.Px
