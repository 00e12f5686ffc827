-- Laid by wip/hprint.py: the kit's print of the translation, turned in places, beside contracts that this session wrote by hand; Lean checks all of it.
import Derived.Test.YtnghebedingjaaaDoorPx0
import Derived.Test.YtnghebedingjaaaDoorPx1
import Derived.Test.YtnghebedingjaaaDoorPx4
namespace Go.Proofs.YtnghebedingjaaaDoor.Px
open Go.RowKit Go.Proofs.YtnghebedingjaaaDoorW.PrintWords Go.Proofs.YtnghebedingjaaaDoorW.PrintLast Go.Proofs.YtnghebedingjaaaDoorW.PrintMore
attribute [local go_sem] max2_int min2_int max_two min_two max_three min_three max_four min_four   -- for this text's walks alone
set_option linter.unusedVariables false
set_option linter.unusedSimpArgs false

/-! ### lex_reader_token: function 22, by hand -/
def lex_reader_token.f (s : ByteArray) (ln : Int) : Option (Int × ByteArray × Int × Bool × ByteArray × Int) :=
  if 1 ≤ s.size then (lex_letter.f (bt s 0)).bind fun a => if a = true then lex_reader_run.f s ln 1 1 ⟨#[95, 45]⟩ else
    (lex_digit.f (bt s 0)).bind fun d => if d = true then lex_reader_run.f s ln 2 1 ⟨#[46]⟩ else
    if bt s 0 = 36 then lex_reader_run.f s ln 3 1 ⟨#[46, 95, 45, 35, 64]⟩ else
    if bt s 0 = 34 then lex_reader_text.f s ln else
    (strings_IndexByte.f ⟨#[123, 125, 40, 41, 59, 61, 43, 44]⟩ (bt s 0)).bind fun e => if 0 ≤ e then some (5, strOfNums [bt s 0], ln, true, s.extract 1 s.size, ln) else some (0, ⟨#[]⟩, 0, false, s, ln)
  else none
theorem lex_reader_token.key (w : World) (b : Nat) (x : Int) (hb : w.heap[b]? = some (.cells #[.int .u8 x] 5 (0, 0))) : (convert 48 9 (.slice (some ⟨b, 0, none⟩) 1 1)).run Tryd.prog w = .ok (.string (strOfNums [x])) w := by
  have hroom : Go.Proofs.YtnghebedingjaaaDoor.Oct.Room w b 5 1 0 [x] := ⟨_, hb, rfl, by decide, rfl⟩
  exact hroom.text 48 5 Tryd.underlying48 Tryd.underlying5 9 Tryd.underlying9 1 1 rfl
theorem lex_reader_token.keep_src {w w1 : World} {g : Nat} {row : Option Nat} {n : Nat} (h : KeepBut (w.drewN n) w1 g row) : KeepBut w w1 g row := h
set_option maxHeartbeats 4000000 in
set_option maxRecDepth 100000 in
theorem lex_reader_token.calls (g : Nat) (s0_0 : ByteArray) (s0_1 : Int) (r1 : Int) (r2 : ByteArray) (r3 : Int) (r4 : Bool) (r5 : ByteArray) (r6 : Int) (w0 w : World) (hI : IsS54 w0 w g s0_0 s0_1) (hB : Below w0.heap.size w0 w) (h : lex_reader_token.f s0_0 s0_1 = some (r1, r2, r3, r4, r5, r6)) :
    Calls Tryd.prog 22 #[.pointer (some ⟨g, 0, none⟩)] w fun e w' => e = .returned (.tuple #[.agg #[.int .i64 r1, .string r2, .int .i64 r3], .bool r4]) ∧ IsS54 w0 w' g r5 r6 ∧ Below w0.heap.size w0 w' ∧ KeepBut w w' g none := by
  unfold lex_reader_token.f at h
  by_cases h1 : 1 ≤ s0_0.size
  case neg => rw [if_neg h1] at h; cases h
  rw [if_pos h1] at h
  obtain ⟨a, ha, h⟩ := Option.bind_eq_some_iff.mp h
  have HA := Lib.hid ha
  have HH := Lib.hid h
  clear ha h
  have hg := hI.2
  have hlt := hI.lt
  have n1 : ¬ w.heap.size = g := by omega
  have n2 : ¬ g = w.heap.size := by omega
  have i1 : (1 : Int) ≤ (s0_0.size : Int) := by omega
  have i0 : (0 : Int) < (s0_0.size : Int) := by omega
  have hp : 0 < s0_0.size := by omega
  have hs0 : w0.heap.size ≤ w.heap.size := hB.size
  have HI := Aside0.mk hI
  have HB := Aside0.mk hB
  clear hI hB
  have hx : ∀ h : 0 < s0_0.size, (((s0_0[0]'h).toNat : Nat) : Int) = bt s0_0 0 := by
    intro h
    unfold bt
    rw [dif_pos (by simpa using h)]
    simp
  go_enter Tryd.func22, Tryd.ntmps22
  have hR1 : (w.alloc (.cells #[.int .i64 0, .string ⟨#[]⟩, .int .i64 0] 25)).heap[w.heap.size]? = some (.cells #[.int .i64 0, .string ⟨#[]⟩, .int .i64 0] 25 (0, 0)) := heap_alloc_new w _
  have HI1 := Aside0.mk (HI.out.alloc (.cells #[.int .i64 0, .string ⟨#[]⟩, .int .i64 0] 25))
  have HB1 := Aside0.mk (below_alloc HB.out (.cells #[.int .i64 0, .string ⟨#[]⟩, .int .i64 0] 25))
  have HK1 := Aside0.mk (keep_alloc (KeepBut.refl w g none) (.cells #[.int .i64 0, .string ⟨#[]⟩, .int .i64 0] 25))
  go_upto_region 1 with (fail)
  have hz : w.heap.size + 1 = (w.alloc (.cells #[.int .i64 0, .string ⟨#[]⟩, .int .i64 0] 25)).heap.size := by simp
  generalize w.alloc (.cells #[.int .i64 0, .string ⟨#[]⟩, .int .i64 0] 25) = W1 at hR1 HI1 HB1 HK1 hz ⊢
  have HZ := Lib.hid hz
  have R1 := Aside0.mk hR1
  clear hz hR1
  have c0 : W1.cell? ⟨g, 0, none⟩ = some (.string s0_0) := by rw [Lib.cell_of_heap HI1.out.1]; rfl
  go_upto_block 0 with (fail)
  clear c0
  by_cases hat : a = true
  · subst hat
    have hh := HH.out
    rw [if_pos rfl] at hh
    have HH := Lib.hid hh
    clear hh
    go_wp2_with (first | (refine (lex_letter.calls (bt s0_0 0) true _ HA.out).mono ?_; rintro e w' ⟨rfl, ⟨nd, rfl⟩⟩) | (refine (lex_reader_run.calls g s0_0 s0_1 1 1 ⟨#[95, 45]⟩ r1 r2 r3 r4 r5 r6 w0 _ (by with_reducible repeat (first | exact HI1.out | apply IsS54.drewN | apply IsS54.drew)) (by with_reducible repeat (first | exact HB1.out | apply pw_below_drewN | apply below_drew1)) HH.out).mono ?_; rintro e W3 ⟨rfl, hi3, hb3, hk3⟩; have hr3 : W3.heap[w.heap.size]? = some (.cells #[.int .i64 0, .string (⟨#[]⟩ : ByteArray), .int .i64 0] 25 (0, 0)) := (hk3.2 w.heap.size (by have := HZ.out; simp; omega) n1 (by simp)).trans R1.out; have d30 := blk_cell hr3 0; have d31 := blk_cell hr3 1; have d32 := blk_cell hr3 2; simp only [List.size_toArray, List.length_cons, List.length_nil, Nat.reduceAdd, Nat.reduceLT, getElem?_pos, List.getElem_toArray, List.getElem_cons_zero, List.getElem_cons_succ] at d30 d31 d32; have z30 := blk_frozen hr3 0; have z31 := blk_frozen hr3 1; have z32 := blk_frozen hr3 2; have R3 := Aside0.mk hr3; have I3 := Aside0.mk hi3; have B3 := Aside0.mk hb3; have K3 := Aside0.mk (HK1.out.trans (lex_reader_token.keep_src hk3) (.inl rfl)); clear hr3 hi3 hb3 hk3))
    refine bodyPost_ret (results_ct rfl _ _ w.heap.size 25 #[.int .i64 r1, .string r2, .int .i64 r3] (0, 0) _ rfl (by refine blk_put (cs := #[.int .i64 r1, .string r2, .int .i64 0]) ?_ _ _ rfl; refine blk_put (cs := #[.int .i64 r1, .string (⟨#[]⟩ : ByteArray), .int .i64 0]) ?_ _ _ rfl; refine blk_put (cs := #[.int .i64 0, .string (⟨#[]⟩ : ByteArray), .int .i64 0]) ?_ _ _ rfl; exact R3.out) Tryd.underlying25 rfl (by kernel_rfl)) rfl ?_
    exact ⟨by first | rfl | simp, by with_reducible repeat (first | exact I3.out | refine IsS54.far ?_ n2 _), by with_reducible repeat (first | exact B3.out | refine below_set ?_ hs0), by with_reducible repeat (first | exact K3.out | refine keep_far ?_ (Nat.le_refl _) _)⟩
  · obtain rfl : a = false := by simpa using hat
    have hh := HH.out
    rw [if_neg (by simp)] at hh
    obtain ⟨d, hd, hh⟩ := Option.bind_eq_some_iff.mp hh
    have HD := Lib.hid hd
    clear hd hat
    by_cases hdt : d = true
    · subst hdt
      rw [if_pos rfl] at hh
      have HH := Lib.hid hh
      clear hh
      go_wp2_with (first | (refine (lex_letter.calls (bt s0_0 0) false _ HA.out).mono ?_; rintro e w' ⟨rfl, ⟨nd, rfl⟩⟩) | (refine (lex_digit.calls (bt s0_0 0) true _ HD.out).mono ?_; rintro e w' ⟨rfl, ⟨nd2, rfl⟩⟩) | (refine (lex_reader_run.calls g s0_0 s0_1 2 1 ⟨#[46]⟩ r1 r2 r3 r4 r5 r6 w0 _ (by with_reducible repeat (first | exact HI1.out | apply IsS54.drewN | apply IsS54.drew)) (by with_reducible repeat (first | exact HB1.out | apply pw_below_drewN | apply below_drew1)) HH.out).mono ?_; rintro e W3 ⟨rfl, hi3, hb3, hk3⟩; have hr3 : W3.heap[w.heap.size]? = some (.cells #[.int .i64 0, .string (⟨#[]⟩ : ByteArray), .int .i64 0] 25 (0, 0)) := (hk3.2 w.heap.size (by have := HZ.out; simp; omega) n1 (by simp)).trans R1.out; have d30 := blk_cell hr3 0; have d31 := blk_cell hr3 1; have d32 := blk_cell hr3 2; simp only [List.size_toArray, List.length_cons, List.length_nil, Nat.reduceAdd, Nat.reduceLT, getElem?_pos, List.getElem_toArray, List.getElem_cons_zero, List.getElem_cons_succ] at d30 d31 d32; have z30 := blk_frozen hr3 0; have z31 := blk_frozen hr3 1; have z32 := blk_frozen hr3 2; have R3 := Aside0.mk hr3; have I3 := Aside0.mk hi3; have B3 := Aside0.mk hb3; have K3 := Aside0.mk (HK1.out.trans (lex_reader_token.keep_src hk3) (.inl rfl)); clear hr3 hi3 hb3 hk3))
      refine bodyPost_ret (results_ct rfl _ _ w.heap.size 25 #[.int .i64 r1, .string r2, .int .i64 r3] (0, 0) _ rfl (by refine blk_put (cs := #[.int .i64 r1, .string r2, .int .i64 0]) ?_ _ _ rfl; refine blk_put (cs := #[.int .i64 r1, .string (⟨#[]⟩ : ByteArray), .int .i64 0]) ?_ _ _ rfl; refine blk_put (cs := #[.int .i64 0, .string (⟨#[]⟩ : ByteArray), .int .i64 0]) ?_ _ _ rfl; exact R3.out) Tryd.underlying25 rfl (by kernel_rfl)) rfl ?_
      exact ⟨by first | rfl | simp, by with_reducible repeat (first | exact I3.out | refine IsS54.far ?_ n2 _), by with_reducible repeat (first | exact B3.out | refine below_set ?_ hs0), by with_reducible repeat (first | exact K3.out | refine keep_far ?_ (Nat.le_refl _) _)⟩
    · obtain rfl : d = false := by simpa using hdt
      rw [if_neg (by simp)] at hh
      clear hdt
      by_cases h36 : bt s0_0 0 = 36
      · rw [if_pos h36] at hh
        have HH := Lib.hid hh
        have c36 : (bt s0_0 0 == 36) = true := beq_iff_eq.mpr h36
        clear hh h36
        go_wp2_with (first | (refine (lex_letter.calls (bt s0_0 0) false _ HA.out).mono ?_; rintro e w' ⟨rfl, ⟨nd, rfl⟩⟩) | (refine (lex_digit.calls (bt s0_0 0) false _ HD.out).mono ?_; rintro e w' ⟨rfl, ⟨nd2, rfl⟩⟩) | (refine (lex_reader_run.calls g s0_0 s0_1 3 1 ⟨#[46, 95, 45, 35, 64]⟩ r1 r2 r3 r4 r5 r6 w0 _ (by with_reducible repeat (first | exact HI1.out | apply IsS54.drewN | apply IsS54.drew)) (by with_reducible repeat (first | exact HB1.out | apply pw_below_drewN | apply below_drew1)) HH.out).mono ?_; rintro e W3 ⟨rfl, hi3, hb3, hk3⟩; have hr3 : W3.heap[w.heap.size]? = some (.cells #[.int .i64 0, .string (⟨#[]⟩ : ByteArray), .int .i64 0] 25 (0, 0)) := (hk3.2 w.heap.size (by have := HZ.out; simp; omega) n1 (by simp)).trans R1.out; have d30 := blk_cell hr3 0; have d31 := blk_cell hr3 1; have d32 := blk_cell hr3 2; simp only [List.size_toArray, List.length_cons, List.length_nil, Nat.reduceAdd, Nat.reduceLT, getElem?_pos, List.getElem_toArray, List.getElem_cons_zero, List.getElem_cons_succ] at d30 d31 d32; have z30 := blk_frozen hr3 0; have z31 := blk_frozen hr3 1; have z32 := blk_frozen hr3 2; have R3 := Aside0.mk hr3; have I3 := Aside0.mk hi3; have B3 := Aside0.mk hb3; have K3 := Aside0.mk (HK1.out.trans (lex_reader_token.keep_src hk3) (.inl rfl)); clear hr3 hi3 hb3 hk3))
        refine bodyPost_ret (results_ct rfl _ _ w.heap.size 25 #[.int .i64 r1, .string r2, .int .i64 r3] (0, 0) _ rfl (by refine blk_put (cs := #[.int .i64 r1, .string r2, .int .i64 0]) ?_ _ _ rfl; refine blk_put (cs := #[.int .i64 r1, .string (⟨#[]⟩ : ByteArray), .int .i64 0]) ?_ _ _ rfl; refine blk_put (cs := #[.int .i64 0, .string (⟨#[]⟩ : ByteArray), .int .i64 0]) ?_ _ _ rfl; exact R3.out) Tryd.underlying25 rfl (by kernel_rfl)) rfl ?_
        exact ⟨by first | rfl | simp, by with_reducible repeat (first | exact I3.out | refine IsS54.far ?_ n2 _), by with_reducible repeat (first | exact B3.out | refine below_set ?_ hs0), by with_reducible repeat (first | exact K3.out | refine keep_far ?_ (Nat.le_refl _) _)⟩
      · rw [if_neg h36] at hh
        have c36 : (bt s0_0 0 == 36) = false := beq_eq_false_iff_ne.mpr h36
        clear h36
        by_cases h34 : bt s0_0 0 = 34
        · rw [if_pos h34] at hh
          have HH := Lib.hid hh
          have c34 : (bt s0_0 0 == 34) = true := beq_iff_eq.mpr h34
          clear hh h34
          go_wp2_with (first | (refine (lex_letter.calls (bt s0_0 0) false _ HA.out).mono ?_; rintro e w' ⟨rfl, ⟨nd, rfl⟩⟩) | (refine (lex_digit.calls (bt s0_0 0) false _ HD.out).mono ?_; rintro e w' ⟨rfl, ⟨nd2, rfl⟩⟩) | (refine (lex_reader_text.calls g s0_0 s0_1 r1 r2 r3 r4 r5 r6 w0 _ (by with_reducible repeat (first | exact HI1.out | apply IsS54.drewN | apply IsS54.drew)) (by with_reducible repeat (first | exact HB1.out | apply pw_below_drewN | apply below_drew1)) HH.out).mono ?_; rintro e W3 ⟨rfl, hi3, hb3, hk3⟩; have hr3 : W3.heap[w.heap.size]? = some (.cells #[.int .i64 0, .string (⟨#[]⟩ : ByteArray), .int .i64 0] 25 (0, 0)) := (hk3.2 w.heap.size (by have := HZ.out; simp; omega) n1 (by simp)).trans R1.out; have d30 := blk_cell hr3 0; have d31 := blk_cell hr3 1; have d32 := blk_cell hr3 2; simp only [List.size_toArray, List.length_cons, List.length_nil, Nat.reduceAdd, Nat.reduceLT, getElem?_pos, List.getElem_toArray, List.getElem_cons_zero, List.getElem_cons_succ] at d30 d31 d32; have z30 := blk_frozen hr3 0; have z31 := blk_frozen hr3 1; have z32 := blk_frozen hr3 2; have R3 := Aside0.mk hr3; have I3 := Aside0.mk hi3; have B3 := Aside0.mk hb3; have K3 := Aside0.mk (HK1.out.trans (lex_reader_token.keep_src hk3) (.inl rfl)); clear hr3 hi3 hb3 hk3))
          refine bodyPost_ret (results_ct rfl _ _ w.heap.size 25 #[.int .i64 r1, .string r2, .int .i64 r3] (0, 0) _ rfl (by refine blk_put (cs := #[.int .i64 r1, .string r2, .int .i64 0]) ?_ _ _ rfl; refine blk_put (cs := #[.int .i64 r1, .string (⟨#[]⟩ : ByteArray), .int .i64 0]) ?_ _ _ rfl; refine blk_put (cs := #[.int .i64 0, .string (⟨#[]⟩ : ByteArray), .int .i64 0]) ?_ _ _ rfl; exact R3.out) Tryd.underlying25 rfl (by kernel_rfl)) rfl ?_
          exact ⟨by first | rfl | simp, by with_reducible repeat (first | exact I3.out | refine IsS54.far ?_ n2 _), by with_reducible repeat (first | exact B3.out | refine below_set ?_ hs0), by with_reducible repeat (first | exact K3.out | refine keep_far ?_ (Nat.le_refl _) _)⟩
        · rw [if_neg h34] at hh
          have c34 : (bt s0_0 0 == 34) = false := beq_eq_false_iff_ne.mpr h34
          clear h34
          obtain ⟨e, he, hh⟩ := Option.bind_eq_some_iff.mp hh
          have HE := Lib.hid he
          clear he
          by_cases he0 : 0 ≤ e
          · rw [if_pos he0] at hh
            simp only [Option.some.injEq, Prod.mk.injEq] at hh
            obtain ⟨rfl, rfl, rfl, rfl, rfl, rfl⟩ := hh
            have ce : decide (e ≥ 0) = true := decide_eq_true he0
            go_upto_region 11 with (first | (refine (lex_letter.calls (bt s0_0 0) false _ HA.out).mono ?_; rintro e w' ⟨rfl, ⟨nd, rfl⟩⟩) | (refine (lex_digit.calls (bt s0_0 0) false _ HD.out).mono ?_; rintro e w' ⟨rfl, ⟨nd2, rfl⟩⟩) | (refine (strings_IndexByte.calls _ _ e _ HE.out).mono ?_; rintro e w' ⟨rfl, ⟨nd3, rfl⟩⟩))
            have k0 : W1.cell? ⟨g, 0, none⟩ = some (.string s0_0) := by rw [Lib.cell_of_heap HI1.out.1]; rfl
            have z0 := blk_frozen HI1.out.1 0
            go_upto_region 12 with (fail)
            clear k0 z0
            have hr4 : ((W1.drewN (nd + nd2 + nd3)).setCell ⟨g, 0, none⟩ (.string (s0_0.extract 1 s0_0.size))).heap[w.heap.size]? = some (.cells #[.int .i64 0, .string (⟨#[]⟩ : ByteArray), .int .i64 0] 25 (0, 0)) := blk_far (blk_drewN R1.out _) n1 _
            have I4 := Aside0.mk ((HI1.out.drewN (nd + nd2 + nd3)).set_0 (s0_0.extract 1 s0_0.size))
            have B4 := Aside0.mk (show Below w0.heap.size w0 ((W1.drewN (nd + nd2 + nd3)).setCell ⟨g, 0, none⟩ (.string (s0_0.extract 1 s0_0.size))) from below_set (pw_below_drewN HB1.out _) hg)
            have K4 := Aside0.mk (show KeepBut w ((W1.drewN (nd + nd2 + nd3)).setCell ⟨g, 0, none⟩ (.string (s0_0.extract 1 s0_0.size))) g none from KeepBut.set_ (keep_drewN HK1.out _) _ _)
            have hsz4 : w.heap.size < ((W1.drewN (nd + nd2 + nd3)).setCell ⟨g, 0, none⟩ (.string (s0_0.extract 1 s0_0.size))).heap.size := blk_lt hr4
            generalize (W1.drewN (nd + nd2 + nd3)).setCell ⟨g, 0, none⟩ (.string (s0_0.extract 1 s0_0.size)) = W4 at hr4 I4 B4 K4 hsz4 ⊢
            have kconv := lex_reader_token.key ((W4.alloc (Obj.cells #[.int .u8 (bt s0_0 0)] 5)).drew) W4.heap.size (bt s0_0 0) (heap_alloc_new W4 _)
            have hr5 : (W4.alloc (Obj.cells #[.int .u8 (bt s0_0 0)] 5)).heap[w.heap.size]? = some (.cells #[.int .i64 0, .string (⟨#[]⟩ : ByteArray), .int .i64 0] 25 (0, 0)) := (Lib.alloc_old W4 _ _ hsz4).trans hr4
            have hg5 : (W4.alloc (Obj.cells #[.int .u8 (bt s0_0 0)] 5)).heap[g]? = some (.cells #[.string (s0_0.extract 1 s0_0.size), .int .i64 s0_1] 54 (0, 0)) := (Lib.alloc_old W4 _ _ (blk_lt I4.out.1)).trans I4.out.1
            have d30 := blk_cell hr4 0
            have d31 := blk_cell hr4 1
            have d32 := blk_cell hr4 2
            simp only [List.size_toArray, List.length_cons, List.length_nil, Nat.reduceAdd, Nat.reduceLT, getElem?_pos, List.getElem_toArray, List.getElem_cons_zero, List.getElem_cons_succ] at d30 d31 d32
            have z30 := blk_frozen hr4 0
            have z31 := blk_frozen hr4 1
            have z32 := blk_frozen hr4 2
            have k1 : W4.cell? ⟨g, 1, none⟩ = some (.int .i64 s0_1) := by rw [Lib.cell_of_heap I4.out.1]; rfl
            have k2 : (W4.alloc (Obj.cells #[.int .u8 (bt s0_0 0)] 5)).cell? ⟨g, 1, none⟩ = some (.int .i64 s0_1) := by rw [Lib.cell_of_heap hg5]; rfl
            have R4 := Aside0.mk hr4
            have I5 := Aside0.mk (I4.out.alloc (Obj.cells #[.int .u8 (bt s0_0 0)] 5))
            have B5 := Aside0.mk (below_alloc B4.out (Obj.cells #[.int .u8 (bt s0_0 0)] 5))
            have K5 := Aside0.mk (keep_alloc K4.out (Obj.cells #[.int .u8 (bt s0_0 0)] 5))
            clear hr4 hr5 hg5
            go_region
            go_wp2_with fail
            refine bodyPost_ret (results_ct rfl _ _ w.heap.size 25 #[.int .i64 5, .string (strOfNums [bt s0_0 0]), .int .i64 s0_1] (0, 0) _ rfl (by (with_reducible repeat (first | refine blk_drewN ?_ _ | refine blk_drew ?_ | refine blk_alloc ?_ _)); refine blk_put (cs := #[.int .i64 5, .string (strOfNums [bt s0_0 0]), .int .i64 0]) ?_ _ _ rfl; refine blk_put (cs := #[.int .i64 5, .string (⟨#[]⟩ : ByteArray), .int .i64 0]) ?_ _ _ rfl; refine blk_put (cs := #[.int .i64 0, .string (⟨#[]⟩ : ByteArray), .int .i64 0]) ?_ _ _ rfl; exact R4.out) Tryd.underlying25 rfl (by kernel_rfl)) rfl ?_
            exact ⟨by first | rfl | simp, by with_reducible repeat (first | exact I4.out | apply IsS54.drewN | apply IsS54.drew | apply IsS54.alloc | refine IsS54.far ?_ n2 _), by with_reducible repeat (first | exact B4.out | exact hs0 | apply pw_below_drewN | apply below_drew1 | apply below_alloc | refine below_set ?_ hs0), by with_reducible repeat (first | exact K4.out | apply keep_drewN | apply keep_drew | apply keep_alloc | refine keep_far ?_ (Nat.le_refl _) _)⟩
          · rw [if_neg he0] at hh
            simp only [Option.some.injEq, Prod.mk.injEq] at hh
            obtain ⟨rfl, rfl, rfl, rfl, rfl, rfl⟩ := hh
            have ce : decide (e ≥ 0) = false := decide_eq_false (by omega)
            go_upto_region 13 with (first | (refine (lex_letter.calls (bt s0_0 0) false _ HA.out).mono ?_; rintro e w' ⟨rfl, ⟨nd, rfl⟩⟩) | (refine (lex_digit.calls (bt s0_0 0) false _ HD.out).mono ?_; rintro e w' ⟨rfl, ⟨nd2, rfl⟩⟩) | (refine (strings_IndexByte.calls _ _ e _ HE.out).mono ?_; rintro e w' ⟨rfl, ⟨nd3, rfl⟩⟩))
            have hr4 : (W1.drewN (nd + nd2 + nd3)).heap[w.heap.size]? = some (.cells #[.int .i64 0, .string (⟨#[]⟩ : ByteArray), .int .i64 0] 25 (0, 0)) := blk_drewN R1.out _
            have d30 := blk_cell R1.out 0
            have d31 := blk_cell R1.out 1
            have d32 := blk_cell R1.out 2
            simp only [List.size_toArray, List.length_cons, List.length_nil, Nat.reduceAdd, Nat.reduceLT, getElem?_pos, List.getElem_toArray, List.getElem_cons_zero, List.getElem_cons_succ] at d30 d31 d32
            have z30 := blk_frozen R1.out 0
            have z31 := blk_frozen R1.out 1
            have z32 := blk_frozen R1.out 2
            have R4 := Aside0.mk hr4
            clear hr4
            go_wp2_with fail
            refine bodyPost_ret (results_ct rfl _ _ w.heap.size 25 #[.int .i64 0, .string (⟨#[]⟩ : ByteArray), .int .i64 0] (0, 0) _ rfl (by with_reducible repeat (first | exact R4.out | refine blk_put (cs := #[.int .i64 0, .string (⟨#[]⟩ : ByteArray), .int .i64 0]) ?_ _ _ rfl)) Tryd.underlying25 rfl (by kernel_rfl)) rfl ?_
            exact ⟨by first | rfl | simp, by with_reducible repeat (first | exact HI1.out | apply IsS54.drewN | refine IsS54.far ?_ n2 _), by with_reducible repeat (first | exact HB1.out | apply pw_below_drewN | refine below_set ?_ hs0), by with_reducible repeat (first | exact HK1.out | apply keep_drewN | refine keep_far ?_ (Nat.le_refl _) _)⟩

/-! ### strings_Count: function 16, by hand -/
def strings_Count.f (a0 a1 : ByteArray) : Option Int := if a1.size = 1 then some (Lib.countByte a0.data.toList (a1.data.toList.getD 0 0)) else none
theorem strings_Count.calls (a0 a1 : ByteArray) (r : Int) (w : World) (h : strings_Count.f a0 a1 = some r) :
    Calls Tryd.prog 16 #[.string a0, .string a1] w fun e w' => e = .returned (.int .i64 r) ∧ Drawn0 w w' := by
  unfold strings_Count.f at h
  by_cases h1 : a1.size = 1
  · rw [if_pos h1] at h
    injection h with h
    obtain ⟨c, hc⟩ : ∃ c, a1.data.toList = [c] := List.length_eq_one_iff.mp (by simpa using h1)
    have e : a1 = ⟨#[c]⟩ := Str.ext hc
    subst e
    subst h
    refine (Tryd.strings_Count_one a0 c w).mono ?_
    rintro e w' ⟨rfl, rfl⟩
    exact ⟨rfl, Drawn0.refl _⟩
  · rw [if_neg h1] at h
    cases h

/-! ### strings_TrimLeft: function 44, by hand -/
def strings_TrimLeft.f (a0 a1 : ByteArray) : Option ByteArray := if a1.size ≤ 100 ∧ a1.data.toList.all (fun b => decide (b.toNat < 128)) = true then some ⟨(Lib.trimLeftS a0.data.toList a1.data.toList).toArray⟩ else none
theorem strings_TrimLeft.calls (a0 a1 : ByteArray) (r : ByteArray) (w : World) (h : strings_TrimLeft.f a0 a1 = some r) :
    Calls Tryd.prog 44 #[.string a0, .string a1] w fun e w' => e = .returned (.string r) ∧ Below w.heap.size w w' := by
  unfold strings_TrimLeft.f at h
  by_cases h1 : a1.size ≤ 100 ∧ a1.data.toList.all (fun b => decide (b.toNat < 128)) = true
  · rw [if_pos h1] at h
    injection h with h
    subst h
    exact Go.Proofs.Any.strings_TrimLeft_laid Tryd.lays161 (by kernel_rfl) a0 a1 w (by omega) (Go.Proofs.ascii_of_all h1.2)
  · rw [if_neg h1] at h
    cases h

end Go.Proofs.YtnghebedingjaaaDoor.Px
