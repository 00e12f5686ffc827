-- Laid by wip/hprint.py: the kit's print of the translation, turned in places, beside contracts that this session wrote by hand; Lean checks all of it.
import Derived.Test.YtnghebedingjaaaDoorPx0
import Derived.Test.YtnghebedingjaaaDoorPx1
import Derived.Test.YtnghebedingjaaaDoorPx2
import Derived.Test.YtnghebedingjaaaDoorPx3
namespace Go.Proofs.YtnghebedingjaaaDoor.Px
open Go.RowKit Go.Proofs.YtnghebedingjaaaDoorW.PrintWords Go.Proofs.YtnghebedingjaaaDoorW.PrintLast Go.Proofs.YtnghebedingjaaaDoorW.PrintMore
attribute [local go_sem] max2_int min2_int max_two min_two max_three min_three max_four min_four   -- for this text's walks alone
set_option linter.unusedVariables false
set_option linter.unusedSimpArgs false

/-! ### lex_reader_text: function 38, by hand -/
def lex_reader_text.len : Value → Nat
  | .string t => t.size
  | _ => 0
def lex_reader_text.go : Nat → ByteArray → List UInt8 → Option (Option (List UInt8 × ByteArray))
  | 0, _, _ => none
  | k + 1, s, acc =>
    if s.toList = ([] : List UInt8) then some none
    else if bt s 0 = 34 then some (some (acc, s.extract 1 s.size))
    else if bt s 0 < 32 then some none
    else if bt s 0 = 92 then (lex_escaped.f 40 (s.extract 1 s.size)).bind fun r => if r.2 = 0 then some none else if 0 ≤ r.1 ∧ r.1 < 256 ∧ 0 ≤ r.2 ∧ r.2 ≤ 1000 ∧ r.2 + 1 ≤ (s.size : Int) ∧ acc.length + 1 ≤ 1073741824 then lex_reader_text.go k (s.extract (r.2 + 1).toNat s.size) (acc ++ [UInt8.ofNat r.1.toNat]) else none
    else if acc.length + 1 ≤ 1073741824 then lex_reader_text.go k (s.extract 1 s.size) (acc ++ [UInt8.ofNat (bt s 0).toNat]) else none
def lex_reader_text.f (s0_0 : ByteArray) (s0_1 : Int) : Option (Int × ByteArray × Int × Bool × ByteArray × Int) :=
  if 1 ≤ s0_0.size then (lex_reader_text.go (s0_0.size + 1) (s0_0.extract 1 s0_0.size) []).bind fun x => match x with
    | some (acc, rest) => some (4, ⟨acc.toArray⟩, s0_1, true, rest, s0_1)
    | none => some (0, ⟨#[]⟩, 0, false, s0_0, s0_1)
  else none
theorem lex_reader_text.pre (s : ByteArray) : strings_HasPrefix.f s ⟨#[34]⟩ = some (decide (s.toList.take 1 = [34])) := by
  unfold strings_HasPrefix.f stringslite_HasPrefix.f
  have hp : (⟨#[34]⟩ : ByteArray).size = 1 := rfl
  rw [hp]
  by_cases h : 1 ≤ s.size
  · rw [if_pos (by omega), if_pos (by omega), if_pos (by omega)]
    simp only [Option.bind_some]
    congr 1
    rw [Bool.eq_iff_iff, beq_iff_eq, decide_eq_true_eq, Str.toList_L, Str.toList_L, Str.pre_L, Str.toList_L]
    rfl
  · rw [if_neg (by omega)]
    simp only [Option.bind_some]
    rw [decide_eq_false]
    intro z
    have := congrArg List.length z
    rw [List.length_take, Str.toList_L, ← Str.size_L] at this
    simp at this
    omega
theorem lex_reader_text.far3 {w : World} {r g : Nat} {v a b c : Value} (h : w.cell? ⟨g, 1, none⟩ = some v) (n : ¬ g = r) : (((w.setCell ⟨r, 0, none⟩ a).setCell ⟨r, 1, none⟩ b).setCell ⟨r, 2, none⟩ c).cell? ⟨g, 1, none⟩ = some v := by
  have e : (((w.setCell ⟨r, 0, none⟩ a).setCell ⟨r, 1, none⟩ b).setCell ⟨r, 2, none⟩ c).heap[g]? = w.heap[g]? := ((Below.heap_setCell _ _ _ g n).trans (Below.heap_setCell _ _ _ g n)).trans (Below.heap_setCell _ _ _ g n)
  rw [World.cell?] at h ⊢
  rw [e]
  exact h
theorem lex_reader_text.at_far {B b : Nat} {p : Value} {bs : List Value} {w : World} (h : Lib.BuilderAt Bld.T 5 B b p bs w) {q : Addr} (hq : q.block < B) (u : Value) : Lib.BuilderAt Bld.T 5 B b p bs (w.setCell q u) := by
  obtain ⟨hB, v, hb, ho, hn⟩ := h
  refine ⟨hB, v, blk_far hb (by omega) _, ho.kept (row := some q.block) ⟨rfl, rfl, rfl, by simp [World.setCell], fun k _ hk => Below.heap_setCell _ _ _ _ (fun e => hk (by rw [e]))⟩ ?_, hn⟩
  cases hv : v.ownBlock with
  | none => exact .inl rfl
  | some g =>
    refine .inr ?_
    intro e
    simp only [Option.some.injEq] at e
    rw [e] at hv
    rcases ho.2 with ⟨rfl, _⟩ | ⟨g', cap, cur, rfl, hbg, _⟩
    · simp [Value.ownBlock] at hv
    · simp [Value.ownBlock] at hv
      omega
theorem lex_reader_text.bfar {B b : Nat} {bs : List Value} {w : World} (h : Lib.IsBuilder Bld.T 5 B b bs w) {p : Addr} (hp : p.block < B) (u : Value) : Lib.IsBuilder Bld.T 5 B b bs (w.setCell p u) :=
  h.elim (fun x => .inl (lex_reader_text.at_far x hp u)) (fun x => .inr (lex_reader_text.at_far x hp u))
set_option maxHeartbeats 4000000 in
set_option maxRecDepth 100000 in
theorem lex_reader_text.calls (g : Nat) (s0_0 : ByteArray) (s0_1 : Int) (r1 : Int) (r2 : ByteArray) (r3 : Int) (r4 : Bool) (r5 : ByteArray) (r6 : Int) (w0 w : World) (hI : IsS54 w0 w g s0_0 s0_1) (hB : Below w0.heap.size w0 w) (h : lex_reader_text.f s0_0 s0_1 = some (r1, r2, r3, r4, r5, r6)) :
    Calls Tryd.prog 38 #[.pointer (some ⟨g, 0, none⟩)] w fun e w' => e = .returned (.tuple #[.agg #[.int .i64 r1, .string r2, .int .i64 r3], .bool r4]) ∧ IsS54 w0 w' g r5 r6 ∧ Below w0.heap.size w0 w' ∧ KeepBut w w' g none := by
  unfold lex_reader_text.f at h
  by_cases h1 : 1 ≤ s0_0.size
  case neg => rw [if_neg h1] at h; cases h
  rw [if_pos h1] at h
  replace h := Option.bind_eq_some_iff.mp h
  obtain ⟨x, hc, h⟩ := h
  have HC := Lib.hid hc
  have HH := Lib.hid h
  clear hc h
  have hg := hI.2
  have hlt := hI.lt
  have hc0 : w.cell? ⟨g, 0, none⟩ = some (.string s0_0) := by rw [Lib.cell_of_heap hI.1]; rfl
  have n1 : ¬ w.heap.size = g := by omega
  have n2 : ¬ g = w.heap.size := by omega
  have n3 : ¬ g = w.heap.size + 1 := by omega
  have n4 : ¬ w.heap.size + 1 = g := by omega
  have i1 : (1 : Int) ≤ (s0_0.size : Int) := by omega
  have HI := Aside0.mk hI
  have HB := Aside0.mk hB
  clear hI hB
  go_enter Tryd.func38, Tryd.ntmps38
  go_wp2_with fail
  have hR1 : ((w.alloc (.cells #[.int .i64 0, .string ⟨#[]⟩, .int .i64 0] 25)).alloc (.cells #[.pointer none, .slice none 0 0] 50)).heap[w.heap.size]? = some (.cells #[.int .i64 0, .string ⟨#[]⟩, .int .i64 0] 25 (0, 0)) := (Lib.alloc_old _ _ _ (by simp)).trans (heap_alloc_new w _)
  have hF : Lib.IsBuilder Bld.T 5 (w.heap.size + 1) (w.heap.size + 1) (Lib.byteCells []) ((w.alloc (.cells #[.int .i64 0, .string ⟨#[]⟩, .int .i64 0] 25)).alloc (.cells #[.pointer none, .slice none 0 0] 50)) := by
    have h2 := Lib.fresh_isBuilder Bld.T 5 (w.alloc (.cells #[.int .i64 0, .string ⟨#[]⟩, .int .i64 0] 25))
    rw [show (w.alloc (.cells #[.int .i64 0, .string ⟨#[]⟩, .int .i64 0] 25)).heap.size = w.heap.size + 1 from by simp] at h2
    exact h2
  have HI1 := Aside0.mk ((HI.out.alloc (.cells #[.int .i64 0, .string ⟨#[]⟩, .int .i64 0] 25)).alloc (.cells #[.pointer none, .slice none 0 0] 50))
  have HB1 := Aside0.mk (below_alloc (below_alloc HB.out (.cells #[.int .i64 0, .string ⟨#[]⟩, .int .i64 0] 25)) (.cells #[.pointer none, .slice none 0 0] 50))
  have HK1 := Aside0.mk (keep_alloc (keep_alloc (KeepBut.refl w g none) (.cells #[.int .i64 0, .string ⟨#[]⟩, .int .i64 0] 25)) (.cells #[.pointer none, .slice none 0 0] 50))
  have hz : w.heap.size + 2 = ((w.alloc (.cells #[.int .i64 0, .string ⟨#[]⟩, .int .i64 0] 25)).alloc (.cells #[.pointer none, .slice none 0 0] 50)).heap.size := by simp
  generalize (w.alloc (.cells #[.int .i64 0, .string ⟨#[]⟩, .int .i64 0] 25)).alloc (.cells #[.pointer none, .slice none 0 0] 50) = W1 at hR1 hF HI1 HB1 HK1 hz ⊢
  have HZ := Lib.hid hz
  have HF := Aside0.mk hF
  have hs0 : w0.heap.size ≤ w.heap.size := HB.out.size
  clear hz hF
  go_loopw [5] (fun v5 wr => ∃ (s : ByteArray) (acc : List UInt8) (k : Nat), v5 = .string s ∧ Hid (lex_reader_text.go k s acc = some x) ∧ acc.length ≤ 1073741824 ∧ Aside0 (Lib.IsBuilder Bld.T 5 (w.heap.size + 1) (w.heap.size + 1) (Lib.byteCells acc) wr) ∧ Aside0 (Below (w.heap.size + 1) W1 wr)) (fun v5 _ => lex_reader_text.len v5)
  case atStart => exact ⟨s0_0.extract 1 s0_0.size, [], s0_0.size + 1, rfl, HC, by simp, HF, ⟨Below.refl _ _⟩⟩
  case round =>
    obtain ⟨s, acc, k, rfl, HG, hacc, HIb, HBr⟩ := hrel
    clear HF HC
    have hgo := HG.out
    cases k with
    | zero => simp [lex_reader_text.go] at hgo
    | succ k =>
    rw [lex_reader_text.go] at hgo
    clear HG
    by_cases c1 : s.toList = ([] : List UInt8)
    · rw [if_pos c1] at hgo
      have c1b0 : (s.toList == ([] : List UInt8)) = true := beq_iff_eq.mpr c1
      have c1b1 : (s.toList != ([] : List UInt8)) = false := bne_eq_false_iff_eq.mpr c1
      injection hgo with hx
      subst hx
      have hp : strings_HasPrefix.f s ⟨#[34]⟩ = some false := by
        rw [lex_reader_text.pre]
        rw [c1]
        rfl
      have HP := Lib.hid hp
      clear hp c1
      have HN := HH.out
      simp only [Option.some.injEq, Prod.mk.injEq] at HN
      obtain ⟨rfl, rfl, rfl, rfl, rfl, rfl⟩ := HN
      have hR := (HBr.out.block w.heap.size (by omega)).trans hR1
      have hG := (HBr.out.block g (by omega)).trans HI1.out.1
      have d0 : wr.cell? ⟨w.heap.size, 0, none⟩ = some (.int .i64 0) := by rw [Lib.cell_of_heap hR]; rfl
      have d1 : wr.cell? ⟨w.heap.size, 1, none⟩ = some (.string ⟨#[]⟩) := by rw [Lib.cell_of_heap hR]; rfl
      have d2 : wr.cell? ⟨w.heap.size, 2, none⟩ = some (.int .i64 0) := by rw [Lib.cell_of_heap hR]; rfl
      have z0 := blk_frozen hR 0
      have z1 := blk_frozen hR 1
      have z2 := blk_frozen hR 2
      have k0 : wr.cell? ⟨g, 0, none⟩ = some (.string s0_0) := by rw [Lib.cell_of_heap hG]; rfl
      have k1 : wr.cell? ⟨g, 1, none⟩ = some (.int .i64 s0_1) := by rw [Lib.cell_of_heap hG]; rfl
      have zg := blk_frozen hG 0
      have BR := Aside0.mk hR
      have BG := Aside0.mk hG
      have bw := Aside0.mk (HB1.out.trans (HBr.out.mono (by have := HB.out.size; have := HZ.out; omega)))
      have kw := Aside0.mk (show KeepBut w wr g none from ⟨by have := HBr.out.size; have := HZ.out; omega, fun k hk hne hr => (HBr.out.block k (by omega)).trans (HK1.out.2 k hk hne hr)⟩)
      clear hR hG
      go_wp2_with (first | (refine (strings_HasPrefix.calls s ⟨#[34]⟩ false _ HP.out).mono ?_; rintro e w' ⟨rfl, ⟨nd, rfl⟩⟩))
      refine bodyPost_ret (results_ct rfl _ _ w.heap.size 25 #[.int .i64 0, .string (⟨#[]⟩ : ByteArray), .int .i64 0] (0, 0) _ rfl (by (with_reducible repeat (first | exact BR.out | refine blk_drewN ?_ _ | refine blk_drew ?_ | refine blk_put (cs := #[.int .i64 0, .string (⟨#[]⟩ : ByteArray), .int .i64 0]) ?_ _ _ rfl))) Tryd.underlying25 rfl (by kernel_rfl)) rfl ?_
      exact ⟨by first | rfl | simp, ⟨by (with_reducible repeat (first | exact BG.out | refine blk_drewN ?_ _ | refine blk_drew ?_ | refine blk_far ?_ ?_ _ | exact n2 )), hg⟩, by with_reducible repeat (first | exact bw.out | apply pw_below_drewN | apply below_drew1 | refine below_set ?_ hs0), by with_reducible repeat (first | exact kw.out | apply keep_drewN | apply keep_drew | refine keep_far ?_ (Nat.le_refl _) _)⟩
    · rw [if_neg c1] at hgo
      have hp : 0 < s.size := by
        rcases Nat.eq_zero_or_pos s.size with z | z
        · exact absurd (by rw [Str.toList_L]; exact List.length_eq_zero_iff.mp (by rw [← Str.size_L]; exact z)) c1
        · exact z
      have hpi : (0 : Int) < (s.size : Int) := by omega
      have hp1 : (1 : Int) ≤ (s.size : Int) := by omega
      have c1b0 : (s.toList == ([] : List UInt8)) = false := beq_eq_false_iff_ne.mpr c1
      have c1b1 : (s.toList != ([] : List UInt8)) = true := bne_iff_ne.mpr c1
      have hx : ∀ h : 0 < s.size, (((s[0]'h).toNat : Nat) : Int) = bt s 0 := by
        intro h
        unfold bt
        rw [dif_pos (by simpa using h)]
        simp
      have hpre : s.toList.take 1 = [34] ↔ bt s 0 = 34 := by
        rw [← hx hp, Str.toList_L]
        have : s.data.toList.take 1 = [s[0]'hp] := by
          rw [List.take_one]
          have : s.data.toList.head? = some (s[0]'hp) := by
            rw [List.head?_eq_getElem?, List.getElem?_eq_getElem (by rw [← Str.size_L]; exact hp)]
            rfl
          rw [this]
          rfl
        rw [this]
        constructor
        · intro z
          simp only [List.cons.injEq, and_true] at z
          rw [z]
          rfl
        · intro z
          congr 1
          apply UInt8.toNat_inj.1
          have : (34 : UInt8).toNat = 34 := rfl
          omega
      have HPre := Lib.hid hpre
      have hb0 := Str.bt_range s 0
      clear c1 hpre
      by_cases c2 : bt s 0 = 34
      · rw [if_pos c2] at hgo
        injection hgo with hx2
        subst hx2
        have HP := Lib.hid (show strings_HasPrefix.f s ⟨#[34]⟩ = some true by rw [lex_reader_text.pre, decide_eq_true (HPre.out.2 c2)])
        have c2b : (bt s 0 != 34) = false := bne_eq_false_iff_eq.mpr c2
        have HN := HH.out
        simp only [Option.some.injEq, Prod.mk.injEq] at HN
        obtain ⟨rfl, rfl, rfl, rfl, rfl, rfl⟩ := HN
        clear c2 HPre
        have hR := (HBr.out.block w.heap.size (by omega)).trans hR1
        have hG := (HBr.out.block g (by omega)).trans HI1.out.1
        have d0 : wr.cell? ⟨w.heap.size, 0, none⟩ = some (.int .i64 0) := by rw [Lib.cell_of_heap hR]; rfl
        have d1 : wr.cell? ⟨w.heap.size, 1, none⟩ = some (.string ⟨#[]⟩) := by rw [Lib.cell_of_heap hR]; rfl
        have d2 : wr.cell? ⟨w.heap.size, 2, none⟩ = some (.int .i64 0) := by rw [Lib.cell_of_heap hR]; rfl
        have z0 := blk_frozen hR 0
        have z1 := blk_frozen hR 1
        have z2 := blk_frozen hR 2
        have k0 : wr.cell? ⟨g, 0, none⟩ = some (.string s0_0) := by rw [Lib.cell_of_heap hG]; rfl
        have k1 : wr.cell? ⟨g, 1, none⟩ = some (.int .i64 s0_1) := by rw [Lib.cell_of_heap hG]; rfl
        have zg := blk_frozen hG 0
        have BR := Aside0.mk hR
        have BG := Aside0.mk hG
        have bw := Aside0.mk (HB1.out.trans (HBr.out.mono (by have := HB.out.size; have := HZ.out; omega)))
        have kw := Aside0.mk (show KeepBut w wr g none from ⟨by have := HBr.out.size; have := HZ.out; omega, fun k hk hne hr => (HBr.out.block k (by omega)).trans (HK1.out.2 k hk hne hr)⟩)
        clear hR hG
        go_wp2_with (first | (refine (strings_HasPrefix.calls s ⟨#[34]⟩ true _ HP.out).mono ?_; rintro e w' ⟨rfl, ⟨nd, rfl⟩⟩))
        have hsz : w.heap.size + 1 ≤ wr.heap.size := by have := HBr.out.size; have := HZ.out; omega
        have hgb : (((wr.drewN nd).setCell ⟨g, 0, none⟩ (.string (s.extract 1 s.size)))).heap[g]? = some (.cells #[.string (s.extract 1 s.size), .int .i64 s0_1] 54 (0, 0)) := blk_put (cs := #[.string s0_0, .int .i64 s0_1]) (blk_drewN BG.out _) _ _ rfl
        have hrb : (((wr.drewN nd).setCell ⟨g, 0, none⟩ (.string (s.extract 1 s.size)))).heap[w.heap.size]? = some (.cells #[.int .i64 0, .string ⟨#[]⟩, .int .i64 0] 25 (0, 0)) := blk_far (blk_drewN BR.out _) n1 _
        have hib := lex_reader_text.bfar (p := ⟨g, 0, none⟩) (Bld.drewN HIb.out nd) (by show g < w.heap.size + 1; omega) (.string (s.extract 1 s.size))
        have hbw : Below w0.heap.size w0 ((wr.drewN nd).setCell ⟨g, 0, none⟩ (.string (s.extract 1 s.size))) := below_set (pw_below_drewN bw.out _) hg
        have hkw : KeepBut w ((wr.drewN nd).setCell ⟨g, 0, none⟩ (.string (s.extract 1 s.size))) g none := KeepBut.set_ (keep_drewN kw.out _) _ _
        have hsz2 : w.heap.size + 1 ≤ ((wr.drewN nd).setCell ⟨g, 0, none⟩ (.string (s.extract 1 s.size))).heap.size := by simpa [World.setCell] using hsz
        clear BR BG bw kw HIb HBr d0 d1 d2 z0 z1 z2 k0 k1 zg
        generalize (wr.drewN nd).setCell ⟨g, 0, none⟩ (.string (s.extract 1 s.size)) = W2 at hgb hrb hib hbw hkw hsz2 ⊢
        have hcell : W2.cell? ⟨g, 1, none⟩ = some (.int .i64 s0_1) := by rw [Lib.cell_of_heap hgb]; rfl
        have GB := Aside0.mk hgb
        have RB := Aside0.mk hrb
        have IB := Aside0.mk hib
        have BW := Aside0.mk hbw
        have KW := Aside0.mk hkw
        clear hgb hrb hib hbw hkw
        go_region_held3 (fun w' => w'.cell? ⟨g, 1, none⟩ = some (.int .i64 s0_1)) (first | exact lex_reader_text.far3 hcell2 n2 | exact hcell2 | exact hcell) (first | (go_at_call 26; refine (Tryd.Builder_String_any (w.heap.size + 1) (w.heap.size + 1) acc _ (by exact IB.out) (by exact hsz2)).mono ?_; rintro e W3 ⟨rfl, hb3⟩; have hcell2 : W3.cell? ⟨g, 1, none⟩ = some (.int .i64 s0_1) := (hb3.cell (p := ⟨g, 1, none⟩) (show g < w.heap.size + 1 by omega)).trans (by exact hcell); have B3 := Aside0.mk hb3; have hr3 : W3.heap[w.heap.size]? = some (.cells #[.int .i64 0, .string (⟨#[]⟩ : ByteArray), .int .i64 0] 25 (0, 0)) := (hb3.block w.heap.size (by omega)).trans (by exact RB.out); have d30 := blk_cell hr3 0; have d31 := blk_cell hr3 1; have d32 := blk_cell hr3 2; simp only [List.size_toArray, List.length_cons, List.length_nil, Nat.reduceAdd, Nat.reduceLT, getElem?_pos, List.getElem_toArray, List.getElem_cons_zero, List.getElem_cons_succ] at d30 d31 d32; have z30 := blk_frozen hr3 0; have z31 := blk_frozen hr3 1; have z32 := blk_frozen hr3 2; have R3 := Aside0.mk hr3; clear hb3 hr3))
        go_wp2_with fail
        have hbe : Below w0.heap.size w0 W3 := (below_drew1 BW.out).trans (B3.out.mono (by omega))
        have hke : KeepBut w W3 g none := ⟨by have := KW.out.1; have h3 : W2.heap.size ≤ W3.heap.size := B3.out.size; omega, fun k hk hne hr => ((show W3.heap[k]? = W2.heap[k]? from B3.out.block k (by omega))).trans (KW.out.2 k hk hne hr)⟩
        have hge : W3.heap[g]? = some (.cells #[.string (s.extract 1 s.size), .int .i64 s0_1] 54 (0, 0)) := (show W3.heap[g]? = W2.heap[g]? from B3.out.block g (by omega)).trans GB.out
        refine bodyPost_ret (results_ct rfl _ _ w.heap.size 25 #[.int .i64 4, .string (⟨acc.toArray⟩ : ByteArray), .int .i64 s0_1] (0, 0) _ rfl (by refine blk_put (cs := #[.int .i64 4, .string (⟨acc.toArray⟩ : ByteArray), .int .i64 0]) ?_ _ _ rfl; refine blk_put (cs := #[.int .i64 4, .string (⟨#[]⟩ : ByteArray), .int .i64 0]) ?_ _ _ rfl; refine blk_put (cs := #[.int .i64 0, .string (⟨#[]⟩ : ByteArray), .int .i64 0]) ?_ _ _ rfl; exact R3.out) Tryd.underlying25 rfl (by kernel_rfl)) rfl ?_
        exact ⟨by first | rfl | simp, ⟨by (with_reducible repeat (first | exact hge | refine blk_far ?_ n2 _)), hg⟩, by with_reducible repeat (first | exact hbe | refine below_set ?_ hs0), by with_reducible repeat (first | exact hke | refine keep_far ?_ (Nat.le_refl _) _)⟩
      · rw [if_neg c2] at hgo
        have HPF := Lib.hid (show strings_HasPrefix.f s ⟨#[34]⟩ = some false by rw [lex_reader_text.pre, decide_eq_false (fun z => c2 (HPre.out.1 z))])
        have c2b : (bt s 0 != 34) = true := bne_iff_ne.mpr c2
        clear c2 HPre
        by_cases c3 : bt s 0 < 32
        · rw [if_pos c3] at hgo
          injection hgo with hx2
          subst hx2
          have HP := HPF
          have c3b : decide (bt s 0 ≥ 32) = false := decide_eq_false (by omega)
          have HN := HH.out
          simp only [Option.some.injEq, Prod.mk.injEq] at HN
          obtain ⟨rfl, rfl, rfl, rfl, rfl, rfl⟩ := HN
          have hR := (HBr.out.block w.heap.size (by omega)).trans hR1
          have hG := (HBr.out.block g (by omega)).trans HI1.out.1
          have d0 : wr.cell? ⟨w.heap.size, 0, none⟩ = some (.int .i64 0) := by rw [Lib.cell_of_heap hR]; rfl
          have d1 : wr.cell? ⟨w.heap.size, 1, none⟩ = some (.string ⟨#[]⟩) := by rw [Lib.cell_of_heap hR]; rfl
          have d2 : wr.cell? ⟨w.heap.size, 2, none⟩ = some (.int .i64 0) := by rw [Lib.cell_of_heap hR]; rfl
          have z0 := blk_frozen hR 0
          have z1 := blk_frozen hR 1
          have z2 := blk_frozen hR 2
          have k0 : wr.cell? ⟨g, 0, none⟩ = some (.string s0_0) := by rw [Lib.cell_of_heap hG]; rfl
          have k1 : wr.cell? ⟨g, 1, none⟩ = some (.int .i64 s0_1) := by rw [Lib.cell_of_heap hG]; rfl
          have zg := blk_frozen hG 0
          have BR := Aside0.mk hR
          have BG := Aside0.mk hG
          have bw := Aside0.mk (HB1.out.trans (HBr.out.mono (by have := HB.out.size; have := HZ.out; omega)))
          have kw := Aside0.mk (show KeepBut w wr g none from ⟨by have := HBr.out.size; have := HZ.out; omega, fun k hk hne hr => (HBr.out.block k (by omega)).trans (HK1.out.2 k hk hne hr)⟩)
          clear hR hG
          go_wp2_with (first | (refine (strings_HasPrefix.calls s ⟨#[34]⟩ false _ HP.out).mono ?_; rintro e w' ⟨rfl, ⟨nd, rfl⟩⟩))
          refine bodyPost_ret (results_ct rfl _ _ w.heap.size 25 #[.int .i64 0, .string (⟨#[]⟩ : ByteArray), .int .i64 0] (0, 0) _ rfl (by (with_reducible repeat (first | exact BR.out | refine blk_drewN ?_ _ | refine blk_drew ?_ | refine blk_put (cs := #[.int .i64 0, .string (⟨#[]⟩ : ByteArray), .int .i64 0]) ?_ _ _ rfl))) Tryd.underlying25 rfl (by kernel_rfl)) rfl ?_
          exact ⟨by first | rfl | simp, ⟨by (with_reducible repeat (first | exact BG.out | refine blk_drewN ?_ _ | refine blk_drew ?_ | refine blk_far ?_ ?_ _ | exact n2 )), hg⟩, by with_reducible repeat (first | exact bw.out | apply pw_below_drewN | apply below_drew1 | refine below_set ?_ hs0), by with_reducible repeat (first | exact kw.out | apply keep_drewN | apply keep_drew | refine keep_far ?_ (Nat.le_refl _) _)⟩
        · rw [if_neg c3] at hgo
          have c3b : decide (bt s 0 ≥ 32) = true := decide_eq_true (by omega)
          have c3c : 32 ≤ bt s 0 := by omega
          clear c3
          by_cases c4 : bt s 0 = 92
          · rw [if_pos c4] at hgo
            have c4b : (bt s 0 == 92) = true := beq_iff_eq.mpr c4
            clear c4
            obtain ⟨⟨q1, q2⟩, he, hgo⟩ := Option.bind_eq_some_iff.mp hgo
            simp only at hgo
            have HE := Lib.hid he
            clear he
            by_cases c5 : q2 = 0
            · rw [if_pos c5] at hgo
              injection hgo with hx2
              subst hx2
              subst c5
              have HN := HH.out
              simp only [Option.some.injEq, Prod.mk.injEq] at HN
              obtain ⟨rfl, rfl, rfl, rfl, rfl, rfl⟩ := HN
              have hR := (HBr.out.block w.heap.size (by omega)).trans hR1
              have hG := (HBr.out.block g (by omega)).trans HI1.out.1
              have d0 : wr.cell? ⟨w.heap.size, 0, none⟩ = some (.int .i64 0) := by rw [Lib.cell_of_heap hR]; rfl
              have d1 : wr.cell? ⟨w.heap.size, 1, none⟩ = some (.string ⟨#[]⟩) := by rw [Lib.cell_of_heap hR]; rfl
              have d2 : wr.cell? ⟨w.heap.size, 2, none⟩ = some (.int .i64 0) := by rw [Lib.cell_of_heap hR]; rfl
              have z0 := blk_frozen hR 0
              have z1 := blk_frozen hR 1
              have z2 := blk_frozen hR 2
              have k0 : wr.cell? ⟨g, 0, none⟩ = some (.string s0_0) := by rw [Lib.cell_of_heap hG]; rfl
              have k1 : wr.cell? ⟨g, 1, none⟩ = some (.int .i64 s0_1) := by rw [Lib.cell_of_heap hG]; rfl
              have zg := blk_frozen hG 0
              have BR := Aside0.mk hR
              have BG := Aside0.mk hG
              have bw := Aside0.mk (HB1.out.trans (HBr.out.mono (by have := HB.out.size; have := HZ.out; omega)))
              have kw := Aside0.mk (show KeepBut w wr g none from ⟨by have := HBr.out.size; have := HZ.out; omega, fun k hk hne hr => (HBr.out.block k (by omega)).trans (HK1.out.2 k hk hne hr)⟩)
              clear hR hG
              go_wp2_with (first | (refine (lex_escaped.calls 40 (s.extract 1 s.size) q1 0 _ HE.out).mono ?_; rintro e w' ⟨rfl, ⟨nd, rfl⟩⟩))
              refine bodyPost_ret (results_ct rfl _ _ w.heap.size 25 #[.int .i64 0, .string (⟨#[]⟩ : ByteArray), .int .i64 0] (0, 0) _ rfl (by (with_reducible repeat (first | exact BR.out | refine blk_drewN ?_ _ | refine blk_drew ?_ | refine blk_put (cs := #[.int .i64 0, .string (⟨#[]⟩ : ByteArray), .int .i64 0]) ?_ _ _ rfl))) Tryd.underlying25 rfl (by kernel_rfl)) rfl ?_
              exact ⟨by first | rfl | simp, ⟨by (with_reducible repeat (first | exact BG.out | refine blk_drewN ?_ _ | refine blk_drew ?_ | refine blk_far ?_ ?_ _ | exact n2 )), hg⟩, by with_reducible repeat (first | exact bw.out | apply pw_below_drewN | apply below_drew1 | refine below_set ?_ hs0), by with_reducible repeat (first | exact kw.out | apply keep_drewN | apply keep_drew | refine keep_far ?_ (Nat.le_refl _) _)⟩
            · rw [if_neg c5] at hgo
              by_cases c6 : 0 ≤ q1 ∧ q1 < 256 ∧ 0 ≤ q2 ∧ q2 ≤ 1000 ∧ q2 + 1 ≤ (s.size : Int) ∧ acc.length + 1 ≤ 1073741824
              case neg => rw [if_neg c6] at hgo; cases hgo
              rw [if_pos c6] at hgo
              obtain ⟨d1, d2, d3, d3b, d4, d5⟩ := c6
              have HG := Lib.hid hgo
              have c5b : (q2 == 0) = false := beq_eq_false_iff_ne.mpr c5
              have d6 : 0 ≤ q2 + 1 := by omega
              have hq : 1 ≤ (q2 + 1).toNat := by omega
              have hcell : (Value.int .u8 q1) = Value.int .u8 ((UInt8.ofNat q1.toNat).toNat : Int) := by
                congr 1
                rw [UInt8.toNat_ofNat']
                omega
              have HCell := Lib.hid hcell
              have HQ := Lib.hid hq
              have hsz1 : w.heap.size + 1 ≤ wr.heap.size := by have := HBr.out.size; have := HZ.out; omega
              clear hgo c5 hcell hq
              go_wp2_with (first | (refine (lex_escaped.calls 40 (s.extract 1 s.size) q1 q2 _ HE.out).mono ?_; rintro e w' ⟨rfl, ⟨nd, rfl⟩⟩))
              refine (Bld.writeByte (w.heap.size + 1) (w.heap.size + 1) (Lib.byteCells acc) q1 _ (Bld.drewN HIb.out _) (by rw [Lib.byteCells_length]; omega) (by exact hsz1)).mono ?_
              rintro e w' ⟨rfl, hi, hb⟩
              go_wp2_with fail
              exact ⟨⟨s.extract (q2 + 1).toNat s.size, acc ++ [UInt8.ofNat q1.toNat], k, rfl, HG, by simp; omega, ⟨by rw [Lib.byteCells_append]; show Lib.IsBuilder _ _ _ _ (Lib.byteCells acc ++ [Value.int .u8 ((UInt8.ofNat q1.toNat).toNat : Int)]) _; rw [← HCell.out]; exact hi⟩, ⟨(pw_below_drewN HBr.out _).trans hb⟩⟩, by show (s.extract (q2 + 1).toNat s.size).size < s.size; have := HQ.out; rw [Str.size_L, Str.post_L, List.length_drop, ← Str.size_L]; omega⟩
          · rw [if_neg c4] at hgo
            have c4b : (bt s 0 == 92) = false := beq_eq_false_iff_ne.mpr c4
            by_cases d5 : acc.length + 1 ≤ 1073741824
            case neg => rw [if_neg d5] at hgo; cases hgo
            rw [if_pos d5] at hgo
            have HG := Lib.hid hgo
            have hcell : (Value.int .u8 (bt s 0)) = Value.int .u8 ((UInt8.ofNat (bt s 0).toNat).toNat : Int) := by
              congr 1
              rw [UInt8.toNat_ofNat']
              omega
            have HCell := Lib.hid hcell
            have hsz1 : w.heap.size + 1 ≤ wr.heap.size := by have := HBr.out.size; have := HZ.out; omega
            clear hgo c4 hcell
            go_wp2_with fail
            refine (Bld.writeByte (w.heap.size + 1) (w.heap.size + 1) (Lib.byteCells acc) (bt s 0) _ HIb.out (by rw [Lib.byteCells_length]; omega) hsz1).mono ?_
            rintro e w' ⟨rfl, hi, hb⟩
            go_wp2_with fail
            exact ⟨⟨s.extract 1 s.size, acc ++ [UInt8.ofNat (bt s 0).toNat], k, rfl, HG, by simp; omega, ⟨by rw [Lib.byteCells_append]; show Lib.IsBuilder _ _ _ _ (Lib.byteCells acc ++ [Value.int .u8 ((UInt8.ofNat (bt s 0).toNat).toNat : Int)]) _; rw [← HCell.out]; exact hi⟩, ⟨HBr.out.trans hb⟩⟩, by show (s.extract 1 s.size).size < s.size; rw [Str.size_L, Str.post_L, List.length_drop, ← Str.size_L]; omega⟩

end Go.Proofs.YtnghebedingjaaaDoor.Px
