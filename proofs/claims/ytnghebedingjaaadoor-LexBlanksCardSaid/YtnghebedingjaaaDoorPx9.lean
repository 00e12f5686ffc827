-- Laid by wip/hprint.py: the kit's print of the translation, turned in places, beside contracts that this session wrote by hand; Lean checks all of it.
import Derived.Test.YtnghebedingjaaaDoorPx0
import Derived.Test.YtnghebedingjaaaDoorPx1
import Derived.Test.YtnghebedingjaaaDoorPx5
import Derived.Test.YtnghebedingjaaaDoorPx8
namespace Go.Proofs.YtnghebedingjaaaDoor.Px
open Go.RowKit Go.Proofs.YtnghebedingjaaaDoorW.PrintWords Go.Proofs.YtnghebedingjaaaDoorW.PrintLast Go.Proofs.YtnghebedingjaaaDoorW.PrintMore
attribute [local go_sem] max2_int min2_int max_two min_two max_three min_three max_four min_four   -- for this text's walks alone
set_option linter.unusedVariables false
set_option linter.unusedSimpArgs false

/-! ### lex_Print: function 8, by hand -/
def lex_Print.one (t : S25) : Option (Option (List UInt8)) :=
  (lex_Token_stands.f t.f0 t.f1 t.f2).bind fun s => if s.toList = ([] : List UInt8) then some none else
  (strings_IndexByte.f ⟨#[9, 10, 13, 32, 35]⟩ (bt s 0)).bind fun e => if 0 ≤ e then some none else
  (lex_reader_token.f s t.f2).bind fun x => if x.2.2.2.1 = false then some none else if ¬ (x.1 = t.f0 ∧ x.2.1 = t.f1 ∧ x.2.2.1 = t.f2) then some none else
  if x.2.2.2.2.1.toList ≠ ([] : List UInt8) then some none else
  if s.size ≤ 1073741824 then (if t.f0 = 5 then (strings_Contains.f ⟨#[59, 123, 125]⟩ s).bind fun c => some (some (s.data.toList ++ [if c then 10 else 32])) else some (some (s.data.toList ++ [32]))) else none
def lex_Print.go : List S25 → List UInt8 → Option (ByteArray × Int)
  | [], acc => some (⟨acc.toArray⟩, 0)
  | t :: l, acc => (lex_Print.one t).bind fun x => match x with
    | none => some (⟨#[]⟩, 140)
    | some bs => if acc.length + bs.length ≤ 70368744177664 then lex_Print.go l (acc ++ bs) else none
def lex_Print.f (l : List S25) : Option (ByteArray × Int) := if l.length ≤ 1073741824 then lex_Print.go l [] else none
theorem lex_Print.drop_cons (l : List S25) (i : Nat) (h : i < l.length) : l.drop i = rd_T25 l (i : Int) :: l.drop (i + 1) := by
  rw [List.drop_eq_getElem_cons h]
  congr 1
  unfold rd_T25
  rw [Int.toNat_natCast, List.getD_eq_getElem?_getD, List.getElem?_eq_getElem h, Option.getD_some]
theorem lex_Print.eqA (d : Nat) (w : World) (x0 y0 : Int) (x1 y1 : ByteArray) (x2 y2 : Int) :
    (Op.equalIn (d + 2) 25 (.agg #[.int .i64 x0, .string x1, .int .i64 x2]) (.agg #[.int .i64 y0, .string y1, .int .i64 y2])).run Tryd.prog w = .ok (x0 == y0 && (x1.toList == y1.toList && (x2 == y2))) w := by
  refine eqA_of Tryd.underlying25 (by kernel_rfl) ?_
  refine eqf_cons (by rfl) (by go_simp; rfl) (by go_simp; rfl) (by go_simp) ?_
  refine eqf_cons (by rfl) (by go_simp; rfl) (by go_simp; rfl) (by go_simp) ?_
  exact eqf_last (by rfl) (by go_simp; rfl) (by go_simp; rfl) (by go_simp)
theorem lex_Print.neq (w : World) (x0 y0 : Int) (x1 y1 : ByteArray) (x2 y2 : Int) (b : Bool) (h : (x0 == y0 && (x1.toList == y1.toList && (x2 == y2))) = b) :
    (binOp .neq 25 (.agg #[.int .i64 x0, .string x1, .int .i64 x2]) (.agg #[.int .i64 y0, .string y1, .int .i64 y2])).run Tryd.prog w = .ok (.bool (!b)) w := by
  subst h
  simp only [binOp]
  simp [Op.equal, Op.maxDepth, lex_Print.eqA 9998 w]
set_option maxHeartbeats 4000000 in
set_option maxRecDepth 100000 in
theorem lex_Print.calls (A0 : Option Addr) (c0 : Nat) (l0 : List S25) (r1 : ByteArray) (r2 : Int) (w : World) (hr0 : Kd.C k25 w A0 l0.length l0) (hc0 : l0.length ≤ c0) (h : lex_Print.f l0 = some (r1, r2)) :
    Calls Tryd.prog 8 #[.slice A0 l0.length c0] w fun e w' => e = .returned (.tuple #[.string r1, .int .i64 r2]) ∧ Below w.heap.size w w' := by
  unfold lex_Print.f at h
  by_cases hL : l0.length ≤ 1073741824
  case neg => rw [if_neg hL] at h; cases h
  rw [if_pos hL] at h
  have H0 := Lib.hid h
  have HR0 := Aside0.mk hr0
  clear h hr0
  have HI0 := Aside0.mk (Lib.fresh_isBuilder Bld.T 5 w)
  have HB0 := Aside0.mk ((Below.refl w.heap.size w).alloc (Nat.le_refl _) (.cells #[.pointer none, .slice none 0 0] 50))
  go_enter Tryd.func8, Tryd.ntmps8
  go_wp2_with fail
  go_loopw [13] (fun v wr => ∃ (i : Nat) (acc : List UInt8), v = .int .i64 i ∧ i ≤ l0.length ∧ Hid (lex_Print.go (l0.drop i) acc = some (r1, r2)) ∧ Aside0 (Lib.IsBuilder Bld.T 5 w.heap.size w.heap.size (Lib.byteCells acc) wr) ∧ Aside0 (Below w.heap.size w wr)) (fun v _ => match v with | .int _ n => l0.length - n.toNat | _ => 0)
  case atStart => exact ⟨0, [], rfl, Nat.zero_le _, H0, HI0, HB0⟩
  case round =>
    obtain ⟨i, acc, rfl, hi, HG, HI, HB⟩ := hrel
    clear H0 HI0 HB0
    by_cases hlt : i < l0.length
    · have hgo := HG.out
      rw [lex_Print.drop_cons l0 i hlt, lex_Print.go] at hgo
      clear HG
      obtain ⟨ad, rfl, e0, e1, e2⟩ := at_T25 HR0.out (i : Int) (by omega) (by omega)
      simp only [Int.toNat_natCast] at e0 e1 e2
      replace e0 := (HB.out.cell (World.block_lt_of_cell? w _ e0)).trans e0
      replace e1 := (HB.out.cell (World.block_lt_of_cell? w _ e1)).trans e1
      replace e2 := (HB.out.cell (World.block_lt_of_cell? w _ e2)).trans e2
      generalize rd_T25 l0 (i : Int) = t at hgo e0 e1 e2
      obtain ⟨t1, t2, t3⟩ := t
      simp only at e0 e1 e2
      obtain ⟨x, hx, hgo⟩ := Option.bind_eq_some_iff.mp hgo
      have HG := Lib.hid hgo
      clear hgo
      unfold lex_Print.one at hx
      obtain ⟨s, hs, hy⟩ := Option.bind_eq_some_iff.mp hx
      have HS := Lib.hid hs
      clear hs
      simp only at HS hy
      have hlt' : (i : Int) < (l0.length : Int) := by omega
      go_upto_region 5 with (fail)
      have h61 := heap_alloc_new wr (Obj.cells #[.int .i64 t1, .string t2, .int .i64 t3] 25)
      have I1 := Aside0.mk (Bld.alloc HI.out (Obj.cells #[.int .i64 t1, .string t2, .int .i64 t3] 25))
      have A1 := Aside0.mk (Bld.apart_new HI.out (Obj.cells #[.int .i64 t1, .string t2, .int .i64 t3] 25))
      have B1 := Aside0.mk (below_alloc HB.out (Obj.cells #[.int .i64 t1, .string t2, .int .i64 t3] 25))
      have hw : w.heap.size ≤ wr.heap.size := HB.out.size
      clear HI HB e0 e1 e2
      generalize wr.heap.size = q6 at h61 A1 hw ⊢
      generalize wr.alloc (Obj.cells #[.int .i64 t1, .string t2, .int .i64 t3] 25) = W1 at h61 I1 A1 B1 ⊢
      have d60 := Lib.cell_of_heap h61 0
      have d61 := Lib.cell_of_heap h61 1
      have d62 := Lib.cell_of_heap h61 2
      go_upto_region 6 with (first | (go_at_call 20; refine (lex_Token_stands.calls t1 t2 t3 s _ HS.out).mono ?_; rintro e W2 ⟨rfl, hb2⟩))
      have h62 : W2.heap[q6]? = _ := (hb2.block q6 (blk_lt h61)).trans h61
      have I2 := Aside0.mk (Bld.move I1.out (fun k hk => hb2.block k hk))
      have A2 := Aside0.mk (A1.out.same (hb2.block _ (I1.out.elim (fun x => x.lt) (fun x => x.lt))) hb2.size)
      have B2 := Aside0.mk (B1.out.trans (hb2.mono B1.out.size))
      clear d60 d61 d62
      have d60 := Lib.cell_of_heap h62 0
      have d61 := Lib.cell_of_heap h62 1
      have d62 := Lib.cell_of_heap h62 2
      go_upto_region 7 with (fail)
      clear d60 d61 d62
      have h63 : (W2.alloc (Obj.cells #[.string s, .int .i64 t3] 54)).heap[q6]? = _ := (Lib.alloc_old W2 (Obj.cells #[.string s, .int .i64 t3] 54) q6 (blk_lt h62)).trans h62
      have hne : q6 ≠ W2.heap.size := Nat.ne_of_lt (blk_lt h62)
      have hI3 : IsS54 w (W2.alloc (Obj.cells #[.string s, .int .i64 t3] 54)) W2.heap.size s t3 := ⟨heap_alloc_new W2 _, B2.out.size⟩
      have I3 := Aside0.mk (Bld.alloc I2.out (Obj.cells #[.string s, .int .i64 t3] 54))
      have A3 := Aside0.mk (A2.out.alloc I2.out (Obj.cells #[.string s, .int .i64 t3] 54))
      have AG := Aside0.mk (Bld.apart_new I2.out (Obj.cells #[.string s, .int .i64 t3] 54))
      have B3 := Aside0.mk (below_alloc B2.out (Obj.cells #[.string s, .int .i64 t3] 54))
      clear I1 A1 B1 I2 A2 B2 h61 h62 hb2
      generalize W2.heap.size = gg at hne hI3 AG ⊢
      generalize W2.alloc (Obj.cells #[.string s, .int .i64 t3] 54) = W3 at h63 hI3 I3 A3 AG B3 ⊢
      have S3 := Aside0.mk hI3
      clear hI3
      by_cases cs : s.toList = ([] : List UInt8)
      · rw [if_pos cs] at hy
        injection hy with hy
        subst hy
        have hg := HG.out
        simp only [Option.some.injEq, Prod.mk.injEq] at hg
        obtain ⟨rfl, rfl⟩ := hg
        have cb : (s.toList == ([] : List UInt8)) = true := beq_iff_eq.mpr cs
        clear cs
        go_wp2_with fail
        go_ret2
        exact ⟨by first | rfl | simp, B3.out⟩
      · rw [if_neg cs] at hy
        have cb : (s.toList == ([] : List UInt8)) = false := beq_eq_false_iff_ne.mpr cs
        have hp : 0 < s.size := by
          rcases Nat.eq_zero_or_pos s.size with z | z
          · exact absurd (by rw [Str.toList_L]; exact List.length_eq_zero_iff.mp (by rw [← Str.size_L]; exact z)) cs
          · exact z
        have hpi : (0 : Int) < (s.size : Int) := by omega
        have hbt : ∀ h : 0 < s.size, (((s[0]'h).toNat : Nat) : Int) = bt s 0 := by
          intro h
          unfold bt
          rw [dif_pos (by simpa using h)]
          simp
        clear cs
        obtain ⟨e, he, hy⟩ := Option.bind_eq_some_iff.mp hy
        have HE := Lib.hid he
        clear he
        by_cases e0 : 0 ≤ e
        · rw [if_pos e0] at hy
          injection hy with hy
          subst hy
          have hg := HG.out
          simp only [Option.some.injEq, Prod.mk.injEq] at hg
          obtain ⟨rfl, rfl⟩ := hg
          have ce : decide (e ≥ 0) = true := decide_eq_true e0
          go_wp2_with (first | (go_at_call 21; refine (strings_IndexByte.calls _ _ e _ HE.out).mono ?_; rintro e w' ⟨rfl, ⟨nd, rfl⟩⟩))
          go_ret2
          exact ⟨by first | rfl | simp, pw_below_drewN B3.out _⟩
        · rw [if_neg e0] at hy
          have ce : decide (e ≥ 0) = false := decide_eq_false (by omega)
          clear e0
          obtain ⟨⟨x1, x2, x3, x4, x5, x6⟩, ht, hy⟩ := Option.bind_eq_some_iff.mp hy
          have HT := Lib.hid ht
          simp only at hy
          clear ht
          go_upto_region 10 with (first | (go_at_call 21; refine (strings_IndexByte.calls _ _ e _ HE.out).mono ?_; rintro e w' ⟨rfl, ⟨nd, rfl⟩⟩) | (go_at_call 22; refine (lex_reader_token.calls gg s t3 x1 x2 x3 x4 x5 x6 w _ (S3.out.drewN _) (pw_below_drewN B3.out _) HT.out).mono ?_; rintro e W4 ⟨rfl, hi4, hb4, hk4⟩))
          have h64 := (hk4.2 q6 (by simpa using blk_lt h63) hne (by simp)).trans h63
          have hI4 := Bld.keep (Bld.drewN I3.out nd) (AG.out.drewN nd) (fun k hk hn => hk4.2 k hk hn (by simp))
          have hst : w.heap.size ≠ gg := fun e => AG.out.1 e.symm
          have hA4 := A3.out.same (hk4.2 w.heap.size (by exact I3.out.elim (fun x => x.lt) (fun x => x.lt)) hst (by simp)) hk4.1
          have hG4 := AG.out.same (hk4.2 w.heap.size (by exact I3.out.elim (fun x => x.lt) (fun x => x.lt)) hst (by simp)) hk4.1
          have S4 := Aside0.mk hi4
          have I4 := Aside0.mk hI4
          have A4 := Aside0.mk hA4
          have G4 := Aside0.mk hG4
          have B4 := Aside0.mk hb4
          clear hi4 hI4 hA4 hG4 hb4 hk4 I3 A3 AG B3 S3 h63
          have h65 := (Lib.alloc_old W4 (Obj.cells #[.int .i64 x1, .string x2, .int .i64 x3] 25) q6 (blk_lt h64)).trans h64
          have h95 := heap_alloc_new W4 (Obj.cells #[.int .i64 x1, .string x2, .int .i64 x3] 25)
          have S5 := Aside0.mk (S4.out.alloc (Obj.cells #[.int .i64 x1, .string x2, .int .i64 x3] 25))
          have I5 := Aside0.mk (Bld.alloc I4.out (Obj.cells #[.int .i64 x1, .string x2, .int .i64 x3] 25))
          have A5 := Aside0.mk (A4.out.alloc I4.out (Obj.cells #[.int .i64 x1, .string x2, .int .i64 x3] 25))
          have G5 := Aside0.mk (G4.out.alloc I4.out (Obj.cells #[.int .i64 x1, .string x2, .int .i64 x3] 25))
          have B5 := Aside0.mk (below_alloc B4.out (Obj.cells #[.int .i64 x1, .string x2, .int .i64 x3] 25))
          clear S4 I4 A4 G4 B4 h64
          generalize W4.heap.size = q9 at h95 ⊢
          generalize W4.alloc (Obj.cells #[.int .i64 x1, .string x2, .int .i64 x3] 25) = W5 at h65 h95 S5 I5 A5 G5 B5 ⊢
          have d60 := Lib.cell_of_heap h65 0
          have d61 := Lib.cell_of_heap h65 1
          have d62 := Lib.cell_of_heap h65 2
          have d90 := Lib.cell_of_heap h95 0
          have d91 := Lib.cell_of_heap h95 1
          have d92 := Lib.cell_of_heap h95 2
          have dg : W5.cell? ⟨gg, 0, none⟩ = some (.string x5) := by rw [Lib.cell_of_heap S5.out.1]; rfl
          by_cases h4 : x4 = false
          · subst h4
            rw [if_pos rfl] at hy
            injection hy with hy
            subst hy
            have hg := HG.out
            simp only [Option.some.injEq, Prod.mk.injEq] at hg
            obtain ⟨rfl, rfl⟩ := hg
            go_wp2_with fail
            go_ret2
            exact ⟨by first | rfl | simp, B5.out⟩
          · obtain rfl : x4 = true := by simpa using h4
            rw [if_neg (by simp)] at hy
            clear h4
            by_cases h5 : x1 = t1 ∧ x2 = t2 ∧ x3 = t3
            case neg =>
              rw [if_pos h5] at hy
              injection hy with hy
              subst hy
              have hg := HG.out
              simp only [Option.some.injEq, Prod.mk.injEq] at hg
              obtain ⟨rfl, rfl⟩ := hg
              have hb : (x1 == t1 && (x2.toList == t2.toList && (x3 == t3))) = false := by
                rw [Bool.eq_false_iff]
                intro z
                simp only [Bool.and_eq_true, beq_iff_eq] at z
                exact h5 ⟨z.1, Str.ext (by rw [← Str.toList_L, ← Str.toList_L]; exact z.2.1), z.2.2⟩
              have hq := fun (w : World) => lex_Print.neq w x1 t1 x2 t2 x3 t3 false hb
              clear h5 hb
              go_wp2_with fail
              go_ret2
              exact ⟨by first | rfl | simp, B5.out⟩
            rw [if_neg (by simpa using h5)] at hy
            have hb : (x1 == t1 && (x2.toList == t2.toList && (x3 == t3))) = true := by rw [h5.1, h5.2.1, h5.2.2]; simp
            have hq := fun (w : World) => lex_Print.neq w x1 t1 x2 t2 x3 t3 true hb
            clear h5 hb
            by_cases h6 : x5.toList ≠ ([] : List UInt8)
            · rw [if_pos h6] at hy
              injection hy with hy
              subst hy
              have hg := HG.out
              simp only [Option.some.injEq, Prod.mk.injEq] at hg
              obtain ⟨rfl, rfl⟩ := hg
              have c6 : (x5.toList == ([] : List UInt8)) = false := beq_eq_false_iff_ne.mpr h6
              have c7 : (x5.toList != ([] : List UInt8)) = true := bne_iff_ne.mpr h6
              clear h6
              go_wp2_with fail
              go_ret2
              exact ⟨by first | rfl | simp, B5.out⟩
            · rw [if_neg h6] at hy
              have h7 : x5.toList = ([] : List UInt8) := by simpa using h6
              have c6 : (x5.toList == ([] : List UInt8)) = true := beq_iff_eq.mpr h7
              have c7 : (x5.toList != ([] : List UInt8)) = false := bne_eq_false_iff_eq.mpr h7
              clear h6 h7
              by_cases hsz : s.size ≤ 1073741824
              case neg => rw [if_neg hsz] at hy; cases hy
              rw [if_pos hsz] at hy
              have HSZ := Lib.hid hsz
              clear hsz
              have hq6 : W5.heap.size ≥ w.heap.size := B5.out.size
              by_cases h5 : t1 = 5
              · rw [if_pos h5] at hy
                obtain ⟨c, hc, hy⟩ := Option.bind_eq_some_iff.mp hy
                injection hy with hy
                subst hy
                have hg := HG.out
                clear HG
                simp only at hg
                by_cases hq7 : acc.length + (s.data.toList ++ [if c = true then (10 : UInt8) else 32]).length ≤ 70368744177664
                case neg => rw [if_neg hq7] at hg; cases hg
                rw [if_pos hq7] at hg
                have hq8 : acc.length + s.size + 1 ≤ 70368744177664 := by have z := hq7; rw [List.length_append, ← Str.size_L, List.length_cons, List.length_nil] at z; omega
                have hcs := Lib.hid (show (Lib.byteCells acc ++ Lib.strCells s).length + 1 ≤ 140737488355328 by (have e : (Lib.strCells s).length = s.size := by simp [Lib.strCells]); rw [List.length_append, Lib.byteCells_length, e]; omega)
                have HG := Lib.hid hg
                have HC := Lib.hid hc
                clear hg hq7 hc
                subst h5
                go_upto_region 12 with (fail)
                go_wp2_with fail
                refine (Bld.write2 w.heap.size w.heap.size (Lib.byteCells acc) s _ I5.out (by rw [Lib.byteCells_length]; omega) hq6).mono ?_
                rintro e W6 ⟨rfl, hi6, hb6, hst6⟩
                have hA6 := hst6.2 q6 A5.out
                have h66 := hA6.2.trans h65
                have I6 := Aside0.mk hi6
                have B6 := Aside0.mk (B5.out.trans hb6)
                have hw6 : w.heap.size ≤ W6.heap.size := B6.out.size
                clear d60 d61 d62 d90 d91 d92 dg hq hi6 hb6 hst6 hA6 I5 A5 G5 B5 S5 h65 h95
                have d60 := Lib.cell_of_heap h66 0
                cases c with
                | true =>
                  go_wp2_with (first | (go_at_call 24; refine (strings_Contains.calls _ _ true _ HC.out).mono ?_; rintro e W7 ⟨rfl, hb7⟩; have I7 := Aside0.mk (Bld.move I6.out (fun k hk => hb7.block k hk)); have B7 := Aside0.mk (B6.out.trans (hb7.mono hw6)); have hw7 : w.heap.size ≤ W7.heap.size := B7.out.size; clear hb7))
                  refine (Bld.writeByte2 w.heap.size w.heap.size (Lib.byteCells acc ++ Lib.strCells s) 10 _ I7.out hcs.out hw7).mono ?_
                  rintro e W8 ⟨rfl, hi8, hb8, hst8⟩
                  have HI8 := Aside0.mk hi8
                  have HB8 := Aside0.mk (B7.out.trans hb8)
                  clear hi8 hb8 hst8
                  go_wp2_with fail
                  exact ⟨⟨i + 1, _, by push_cast; rfl, hlt, HG, ⟨by have h := HI8.out; rw [List.append_assoc] at h; rw [Lib.byteCells_append, Lib.byteCells_append]; exact h⟩, HB8⟩, by show l0.length - (((i : Int) + 1)).toNat < l0.length - ((i : Int)).toNat; omega⟩
                | false =>
                  go_wp2_with (first | (go_at_call 24; refine (strings_Contains.calls _ _ false _ HC.out).mono ?_; rintro e W7 ⟨rfl, hb7⟩; have I7 := Aside0.mk (Bld.move I6.out (fun k hk => hb7.block k hk)); have B7 := Aside0.mk (B6.out.trans (hb7.mono hw6)); have hw7 : w.heap.size ≤ W7.heap.size := B7.out.size; clear hb7))
                  refine (Bld.writeByte2 w.heap.size w.heap.size (Lib.byteCells acc ++ Lib.strCells s) 32 _ I7.out hcs.out hw7).mono ?_
                  rintro e W8 ⟨rfl, hi8, hb8, hst8⟩
                  have HI8 := Aside0.mk hi8
                  have HB8 := Aside0.mk (B7.out.trans hb8)
                  clear hi8 hb8 hst8
                  go_wp2_with fail
                  exact ⟨⟨i + 1, _, by push_cast; rfl, hlt, HG, ⟨by have h := HI8.out; rw [List.append_assoc] at h; rw [Lib.byteCells_append, Lib.byteCells_append]; exact h⟩, HB8⟩, by show l0.length - (((i : Int) + 1)).toNat < l0.length - ((i : Int)).toNat; omega⟩
              · rw [if_neg h5] at hy
                injection hy with hy
                subst hy
                have hg := HG.out
                clear HG
                simp only at hg
                by_cases hq7 : acc.length + (s.data.toList ++ [(32 : UInt8)]).length ≤ 70368744177664
                case neg => rw [if_neg hq7] at hg; cases hg
                rw [if_pos hq7] at hg
                have hq8 : acc.length + s.size + 1 ≤ 70368744177664 := by have z := hq7; rw [List.length_append, ← Str.size_L, List.length_cons, List.length_nil] at z; omega
                have hcs := Lib.hid (show (Lib.byteCells acc ++ Lib.strCells s).length + 1 ≤ 140737488355328 by (have e : (Lib.strCells s).length = s.size := by simp [Lib.strCells]); rw [List.length_append, Lib.byteCells_length, e]; omega)
                have HG := Lib.hid hg
                clear hg hq7
                have c5 : (t1 == 5) = false := beq_eq_false_iff_ne.mpr h5
                clear h5
                go_upto_region 12 with (fail)
                go_wp2_with fail
                refine (Bld.write2 w.heap.size w.heap.size (Lib.byteCells acc) s _ I5.out (by rw [Lib.byteCells_length]; omega) hq6).mono ?_
                rintro e W6 ⟨rfl, hi6, hb6, hst6⟩
                have hA6 := hst6.2 q6 A5.out
                have h66 := hA6.2.trans h65
                have I6 := Aside0.mk hi6
                have B6 := Aside0.mk (B5.out.trans hb6)
                have hw6 : w.heap.size ≤ W6.heap.size := B6.out.size
                clear d60 d61 d62 d90 d91 d92 dg hq hi6 hb6 hst6 hA6 I5 A5 G5 B5 S5 h65 h95
                have d60 := Lib.cell_of_heap h66 0
                go_wp2_with fail
                refine (Bld.writeByte2 w.heap.size w.heap.size (Lib.byteCells acc ++ Lib.strCells s) 32 _ I6.out hcs.out hw6).mono ?_
                rintro e W8 ⟨rfl, hi8, hb8, hst8⟩
                have HI8 := Aside0.mk hi8
                have HB8 := Aside0.mk (B6.out.trans hb8)
                clear hi8 hb8 hst8
                go_wp2_with fail
                exact ⟨⟨i + 1, _, by push_cast; rfl, hlt, HG, ⟨by have h := HI8.out; rw [List.append_assoc] at h; rw [Lib.byteCells_append, Lib.byteCells_append]; exact h⟩, HB8⟩, by show l0.length - (((i : Int) + 1)).toNat < l0.length - ((i : Int)).toNat; omega⟩
    · obtain rfl : i = l0.length := by omega
      have hgo := HG.out
      rw [List.drop_length, lex_Print.go] at hgo
      injection hgo with hgo
      injection hgo with hg1 hg2
      subst hg1
      subst hg2
      clear HG
      go_wp2_with fail
      refine (Tryd.Builder_String_any w.heap.size w.heap.size acc _ HI.out HB.out.size).mono ?_
      rintro e w6 ⟨rfl, hb6⟩
      have hb7 := HB.out.trans hb6
      go_wp2_with fail
      go_ret2
      exact ⟨rfl, hb7⟩

end Go.Proofs.YtnghebedingjaaaDoor.Px
