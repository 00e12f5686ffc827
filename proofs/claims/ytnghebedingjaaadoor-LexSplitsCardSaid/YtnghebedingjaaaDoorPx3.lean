-- Laid by wip/hprint.py: the kit's print of the translation, turned in places, beside contracts that this session wrote by hand; Lean checks all of it.
import Derived.Test.YtnghebedingjaaaDoorPx0
import Derived.Test.YtnghebedingjaaaDoorPx1
import Derived.Test.YtnghebedingjaaaDoorPx2
namespace Go.Proofs.YtnghebedingjaaaDoor.Px
open Go.RowKit Go.Proofs.YtnghebedingjaaaDoorW.PrintWords Go.Proofs.YtnghebedingjaaaDoorW.PrintLast Go.Proofs.YtnghebedingjaaaDoorW.PrintMore
attribute [local go_sem] max2_int min2_int max_two min_two max_three min_three max_four min_four   -- for this text's walks alone
set_option linter.unusedVariables false
set_option linter.unusedSimpArgs false

/-! ### lex_reader_text: function 38, by hand -/
def lex_reader_text.len : Value → Nat
  | .string t => t.size
  | _ => 0
def lex_reader_text.go : Nat → ByteArray → List UInt8 → Option (Option (List UInt8 × ByteArray))
  | 0, _, _ => none
  | k + 1, s, acc =>
    if s.toList = ([] : List UInt8) then some none
    else if bt s 0 = 34 then some (some (acc, s.extract 1 s.size))
    else if bt s 0 < 32 then some none
    else if bt s 0 = 92 then (lex_escaped.f 40 (s.extract 1 s.size)).bind fun r => if r.2 = 0 then some none else if 0 ≤ r.1 ∧ r.1 < 256 ∧ 0 ≤ r.2 ∧ r.2 ≤ 1000 ∧ r.2 + 1 ≤ (s.size : Int) ∧ acc.length + 1 ≤ 1073741824 then lex_reader_text.go k (s.extract (r.2 + 1).toNat s.size) (acc ++ [UInt8.ofNat r.1.toNat]) else none
    else if acc.length + 1 ≤ 1073741824 then lex_reader_text.go k (s.extract 1 s.size) (acc ++ [UInt8.ofNat (bt s 0).toNat]) else none
def lex_reader_text.f (s0_0 : ByteArray) (s0_1 : Int) : Option (Int × ByteArray × Int × Bool × ByteArray × Int) :=
  if 1 ≤ s0_0.size then (lex_reader_text.go (s0_0.size + 1) (s0_0.extract 1 s0_0.size) []).bind fun x => match x with
    | some (acc, rest) => some (4, ⟨acc.toArray⟩, s0_1, true, rest, s0_1)
    | none => some (0, ⟨#[]⟩, 0, false, s0_0, s0_1)
  else none
theorem lex_reader_text.pre (s : ByteArray) : strings_HasPrefix.f s ⟨#[34]⟩ = some (decide (s.toList.take 1 = [34])) := by
  unfold strings_HasPrefix.f stringslite_HasPrefix.f
  have hp : (⟨#[34]⟩ : ByteArray).size = 1 := rfl
  rw [hp]
  by_cases h : 1 ≤ s.size
  · rw [if_pos (by omega), if_pos (by omega), if_pos (by omega)]
    simp only [Option.bind_some]
    congr 1
    rw [Bool.eq_iff_iff, beq_iff_eq, decide_eq_true_eq, Str.toList_L, Str.toList_L, Str.pre_L, Str.toList_L]
    rfl
  · rw [if_neg (by omega)]
    simp only [Option.bind_some]
    rw [decide_eq_false]
    intro z
    have := congrArg List.length z
    rw [List.length_take, Str.toList_L, ← Str.size_L] at this
    simp at this
    omega
theorem lex_reader_text.far3 {w : World} {r g : Nat} {v a b c : Value} (h : w.cell? ⟨g, 1, none⟩ = some v) (n : ¬ g = r) : (((w.setCell ⟨r, 0, none⟩ a).setCell ⟨r, 1, none⟩ b).setCell ⟨r, 2, none⟩ c).cell? ⟨g, 1, none⟩ = some v := by
  have e : (((w.setCell ⟨r, 0, none⟩ a).setCell ⟨r, 1, none⟩ b).setCell ⟨r, 2, none⟩ c).heap[g]? = w.heap[g]? := ((Below.heap_setCell _ _ _ g n).trans (Below.heap_setCell _ _ _ g n)).trans (Below.heap_setCell _ _ _ g n)
  rw [World.cell?] at h ⊢
  rw [e]
  exact h
theorem lex_reader_text.at_far {B b : Nat} {p : Value} {bs : List Value} {w : World} (h : Lib.BuilderAt Bld.T 5 B b p bs w) {q : Addr} (hq : q.block < B) (u : Value) : Lib.BuilderAt Bld.T 5 B b p bs (w.setCell q u) := by
  obtain ⟨hB, v, hb, ho, hn⟩ := h
  refine ⟨hB, v, blk_far hb (by omega) _, ho.kept (row := some q.block) ⟨rfl, rfl, rfl, by simp [World.setCell], fun k _ hk => Below.heap_setCell _ _ _ _ (fun e => hk (by rw [e]))⟩ ?_, hn⟩
  cases hv : v.ownBlock with
  | none => exact .inl rfl
  | some g =>
    refine .inr ?_
    intro e
    simp only [Option.some.injEq] at e
    rw [e] at hv
    rcases ho.2 with ⟨rfl, _⟩ | ⟨g', cap, cur, rfl, hbg, _⟩
    · simp [Value.ownBlock] at hv
    · simp [Value.ownBlock] at hv
      omega
theorem lex_reader_text.bfar {B b : Nat} {bs : List Value} {w : World} (h : Lib.IsBuilder Bld.T 5 B b bs w) {p : Addr} (hp : p.block < B) (u : Value) : Lib.IsBuilder Bld.T 5 B b bs (w.setCell p u) :=
  h.elim (fun x => .inl (lex_reader_text.at_far x hp u)) (fun x => .inr (lex_reader_text.at_far x hp u))
set_option maxHeartbeats 4000000 in
set_option maxRecDepth 100000 in
theorem lex_reader_text.calls (g : Nat) (s0_0 : ByteArray) (s0_1 : Int) (r1 : Int) (r2 : ByteArray) (r3 : Int) (r4 : Bool) (r5 : ByteArray) (r6 : Int) (w0 w : World) (hI : IsS54 w0 w g s0_0 s0_1) (hB : Below w0.heap.size w0 w) (h : lex_reader_text.f s0_0 s0_1 = some (r1, r2, r3, r4, r5, r6)) :
    Calls Tryd.prog 38 #[.pointer (some ⟨g, 0, none⟩)] w fun e w' => e = .returned (.tuple #[.agg #[.int .i64 r1, .string r2, .int .i64 r3], .bool r4]) ∧ IsS54 w0 w' g r5 r6 ∧ Below w0.heap.size w0 w' ∧ KeepBut w w' g none := by
  unfold lex_reader_text.f at h
  by_cases h1 : 1 ≤ s0_0.size
  case neg => rw [if_neg h1] at h; cases h
  rw [if_pos h1] at h
  replace h := Option.bind_eq_some_iff.mp h
  obtain ⟨x, hc, h⟩ := h
  have HC := Lib.hid hc
  have HH := Lib.hid h
  clear hc h
  have hg := hI.2
  have hlt := hI.lt
  have hc0 : w.cell? ⟨g, 0, none⟩ = some (.string s0_0) := by rw [Lib.cell_of_heap hI.1]; rfl
  have n1 : ¬ w.heap.size = g := by omega
  have n2 : ¬ g = w.heap.size := by omega
  have n3 : ¬ g = w.heap.size + 1 := by omega
  have n4 : ¬ w.heap.size + 1 = g := by omega
  have i1 : (1 : Int) ≤ (s0_0.size : Int) := by omega
  have HI := Aside0.mk hI
  have HB := Aside0.mk hB
  clear hI hB
  go_enter Tryd.func38, Tryd.ntmps38
  go_wp2_with fail
  have hR1 : ((w.alloc (.cells #[.int .i64 0, .string ⟨#[]⟩, .int .i64 0] 25)).alloc (.cells #[.pointer none, .slice none 0 0] 50)).heap[w.heap.size]? = some (.cells #[.int .i64 0, .string ⟨#[]⟩, .int .i64 0] 25 (0, 0)) := (Lib.alloc_old _ _ _ (by simp)).trans (heap_alloc_new w _)
  have hF : Lib.IsBuilder Bld.T 5 (w.heap.size + 1) (w.heap.size + 1) (Lib.byteCells []) ((w.alloc (.cells #[.int .i64 0, .string ⟨#[]⟩, .int .i64 0] 25)).alloc (.cells #[.pointer none, .slice none 0 0] 50)) := by
    have h2 := Lib.fresh_isBuilder Bld.T 5 (w.alloc (.cells #[.int .i64 0, .string ⟨#[]⟩, .int .i64 0] 25))
    rw [show (w.alloc (.cells #[.int .i64 0, .string ⟨#[]⟩, .int .i64 0] 25)).heap.size = w.heap.size + 1 from by simp] at h2
    exact h2
  have HI1 := Aside0.mk ((HI.out.alloc (.cells #[.int .i64 0, .string ⟨#[]⟩, .int .i64 0] 25)).alloc (.cells #[.pointer none, .slice none 0 0] 50))
  have HB1 := Aside0.mk (below_alloc (below_alloc HB.out (.cells #[.int .i64 0, .string ⟨#[]⟩, .int .i64 0] 25)) (.cells #[.pointer none, .slice none 0 0] 50))
  have HK1 := Aside0.mk (keep_alloc (keep_alloc (KeepBut.refl w g none) (.cells #[.int .i64 0, .string ⟨#[]⟩, .int .i64 0] 25)) (.cells #[.pointer none, .slice none 0 0] 50))
  have hz : w.heap.size + 2 = ((w.alloc (.cells #[.int .i64 0, .string ⟨#[]⟩, .int .i64 0] 25)).alloc (.cells #[.pointer none, .slice none 0 0] 50)).heap.size := by simp
  generalize (w.alloc (.cells #[.int .i64 0, .string ⟨#[]⟩, .int .i64 0] 25)).alloc (.cells #[.pointer none, .slice none 0 0] 50) = W1 at hR1 hF HI1 HB1 HK1 hz ⊢
  have HZ := Lib.hid hz
  have HF := Aside0.mk hF
  have hs0 : w0.heap.size ≤ w.heap.size := HB.out.size
  clear hz hF
  go_loopw [5] (fun v5 wr => ∃ (s : ByteArray) (acc : List UInt8) (k : Nat), v5 = .string s ∧ Hid (lex_reader_text.go k s acc = some x) ∧ acc.length ≤ 1073741824 ∧ Aside0 (Lib.IsBuilder Bld.T 5 (w.heap.size + 1) (w.heap.size + 1) (Lib.byteCells acc) wr) ∧ Aside0 (Below (w.heap.size + 1) W1 wr)) (fun v5 _ => lex_reader_text.len v5)
  case atStart => exact ⟨s0_0.extract 1 s0_0.size, [], s0_0.size + 1, rfl, HC, by simp, HF, ⟨Below.refl _ _⟩⟩
  case round =>
    obtain ⟨s, acc, k, rfl, HG, hacc, HIb, HBr⟩ := hrel
    clear HF HC
    have hgo := HG.out
    cases k with
    | zero => simp [lex_reader_text.go] at hgo
    | succ k =>
    rw [lex_reader_text.go] at hgo
    clear HG
    by_cases c1 : s.toList = ([] : List UInt8)
    · rw [if_pos c1] at hgo
      have c1b0 : (s.toList == ([] : List UInt8)) = true := beq_iff_eq.mpr c1
      have c1b1 : (s.toList != ([] : List UInt8)) = false := bne_eq_false_iff_eq.mpr c1
      injection hgo with hx
      subst hx
      have hp : strings_HasPrefix.f s ⟨#[34]⟩ = some false := by
        rw [lex_reader_text.pre]
        rw [c1]
        rfl
      have HP := Lib.hid hp
      clear hp c1
      have HN := HH.out
      simp only [Option.some.injEq, Prod.mk.injEq] at HN
      obtain ⟨rfl, rfl, rfl, rfl, rfl, rfl⟩ := HN
      have hR := (HBr.out.block w.heap.size (by omega)).trans hR1
      have hG := (HBr.out.block g (by omega)).trans HI1.out.1
      have d0 : wr.cell? ⟨w.heap.size, 0, none⟩ = some (.int .i64 0) := by rw [Lib.cell_of_heap hR]; rfl
      have d1 : wr.cell? ⟨w.heap.size, 1, none⟩ = some (.string ⟨#[]⟩) := by rw [Lib.cell_of_heap hR]; rfl
      have d2 : wr.cell? ⟨w.heap.size, 2, none⟩ = some (.int .i64 0) := by rw [Lib.cell_of_heap hR]; rfl
      have z0 := blk_frozen hR 0
      have z1 := blk_frozen hR 1
      have z2 := blk_frozen hR 2
      have k0 : wr.cell? ⟨g, 0, none⟩ = some (.string s0_0) := by rw [Lib.cell_of_heap hG]; rfl
      have k1 : wr.cell? ⟨g, 1, none⟩ = some (.int .i64 s0_1) := by rw [Lib.cell_of_heap hG]; rfl
      have zg := blk_frozen hG 0
      have BR := Aside0.mk hR
      have BG := Aside0.mk hG
      have bw := Aside0.mk (HB1.out.trans (HBr.out.mono (by have := HB.out.size; have := HZ.out; omega)))
      have kw := Aside0.mk (show KeepBut w wr g none from ⟨by have := HBr.out.size; have := HZ.out; omega, fun k hk hne hr => (HBr.out.block k (by omega)).trans (HK1.out.2 k hk hne hr)⟩)
      clear hR hG
      go_wp2_with (first | (refine (strings_HasPrefix.calls s ⟨#[34]⟩ false _ HP.out).mono ?_; rintro e w' ⟨rfl, ⟨nd, rfl⟩⟩))
      refine bodyPost_ret (results_ct rfl _ _ w.heap.size 25 #[.int .i64 0, .string (⟨#[]⟩ : ByteArray), .int .i64 0] (0, 0) _ rfl (by (with_reducible repeat (first | exact BR.out | refine blk_drewN ?_ _ | refine blk_drew ?_ | refine blk_put (cs := #[.int .i64 0, .string (⟨#[]⟩ : ByteArray), .int .i64 0]) ?_ _ _ rfl))) Tryd.underlying25 rfl (by kernel_rfl)) rfl ?_
      exact ⟨by first | rfl | simp, ⟨by (with_reducible repeat (first | exact BG.out | refine blk_drewN ?_ _ | refine blk_drew ?_ | refine blk_far ?_ ?_ _ | exact n2 )), hg⟩, by with_reducible repeat (first | exact bw.out | apply pw_below_drewN | apply below_drew1 | refine below_set ?_ hs0), by with_reducible repeat (first | exact kw.out | apply keep_drewN | apply keep_drew | refine keep_far ?_ (Nat.le_refl _) _)⟩
    · rw [if_neg c1] at hgo
      have hp : 0 < s.size := by
        rcases Nat.eq_zero_or_pos s.size with z | z
        · exact absurd (by rw [Str.toList_L]; exact List.length_eq_zero_iff.mp (by rw [← Str.size_L]; exact z)) c1
        · exact z
      have hpi : (0 : Int) < (s.size : Int) := by omega
      have hp1 : (1 : Int) ≤ (s.size : Int) := by omega
      have c1b0 : (s.toList == ([] : List UInt8)) = false := beq_eq_false_iff_ne.mpr c1
      have c1b1 : (s.toList != ([] : List UInt8)) = true := bne_iff_ne.mpr c1
      have hx : ∀ h : 0 < s.size, (((s[0]'h).toNat : Nat) : Int) = bt s 0 := by
        intro h
        unfold bt
        rw [dif_pos (by simpa using h)]
        simp
      have hpre : s.toList.take 1 = [34] ↔ bt s 0 = 34 := by
        rw [← hx hp, Str.toList_L]
        have : s.data.toList.take 1 = [s[0]'hp] := by
          rw [List.take_one]
          have : s.data.toList.head? = some (s[0]'hp) := by
            rw [List.head?_eq_getElem?, List.getElem?_eq_getElem (by rw [← Str.size_L]; exact hp)]
            rfl
          rw [this]
          rfl
        rw [this]
        constructor
        · intro z
          simp only [List.cons.injEq, and_true] at z
          rw [z]
          rfl
        · intro z
          congr 1
          apply UInt8.toNat_inj.1
          have : (34 : UInt8).toNat = 34 := rfl
          omega
      have HPre := Lib.hid hpre
      have hb0 := Str.bt_range s 0
      clear c1 hpre
      by_cases c2 : bt s 0 = 34
      · rw [if_pos c2] at hgo
        injection hgo with hx2
        subst hx2
        have HP := Lib.hid (show strings_HasPrefix.f s ⟨#[34]⟩ = some true by rw [lex_reader_text.pre, decide_eq_true (HPre.out.2 c2)])
        have c2b : (bt s 0 != 34) = false := bne_eq_false_iff_eq.mpr c2
        have HN := HH.out
        simp only [Option.some.injEq, Prod.mk.injEq] at HN
        obtain ⟨rfl, rfl, rfl, rfl, rfl, rfl⟩ := HN
        clear c2 HPre
        have hR := (HBr.out.block w.heap.size (by omega)).trans hR1
        have hG := (HBr.out.block g (by omega)).trans HI1.out.1
        have d0 : wr.cell? ⟨w.heap.size, 0, none⟩ = some (.int .i64 0) := by rw [Lib.cell_of_heap hR]; rfl
        have d1 : wr.cell? ⟨w.heap.size, 1, none⟩ = some (.string ⟨#[]⟩) := by rw [Lib.cell_of_heap hR]; rfl
        have d2 : wr.cell? ⟨w.heap.size, 2, none⟩ = some (.int .i64 0) := by rw [Lib.cell_of_heap hR]; rfl
        have z0 := blk_frozen hR 0
        have z1 := blk_frozen hR 1
        have z2 := blk_frozen hR 2
        have k0 : wr.cell? ⟨g, 0, none⟩ = some (.string s0_0) := by rw [Lib.cell_of_heap hG]; rfl
        have k1 : wr.cell? ⟨g, 1, none⟩ = some (.int .i64 s0_1) := by rw [Lib.cell_of_heap hG]; rfl
        have zg := blk_frozen hG 0
        have BR := Aside0.mk hR
        have BG := Aside0.mk hG
        have bw := Aside0.mk (HB1.out.trans (HBr.out.mono (by have := HB.out.size; have := HZ.out; omega)))
        have kw := Aside0.mk (show KeepBut w wr g none from ⟨by have := HBr.out.size; have := HZ.out; omega, fun k hk hne hr => (HBr.out.block k (by omega)).trans (HK1.out.2 k hk hne hr)⟩)
        clear hR hG
        go_wp2_with (first | (refine (strings_HasPrefix.calls s ⟨#[34]⟩ true _ HP.out).mono ?_; rintro e w' ⟨rfl, ⟨nd, rfl⟩⟩))
        have hsz : w.heap.size + 1 ≤ wr.heap.size := by have := HBr.out.size; have := HZ.out; omega
        have hgb : (((wr.drewN nd).setCell ⟨g, 0, none⟩ (.string (s.extract 1 s.size)))).heap[g]? = some (.cells #[.string (s.extract 1 s.size), .int .i64 s0_1] 54 (0, 0)) := blk_put (cs := #[.string s0_0, .int .i64 s0_1]) (blk_drewN BG.out _) _ _ rfl
        have hrb : (((wr.drewN nd).setCell ⟨g, 0, none⟩ (.string (s.extract 1 s.size)))).heap[w.heap.size]? = some (.cells #[.int .i64 0, .string ⟨#[]⟩, .int .i64 0] 25 (0, 0)) := blk_far (blk_drewN BR.out _) n1 _
        have hib := lex_reader_text.bfar (p := ⟨g, 0, none⟩) (Bld.drewN HIb.out nd) (by show g < w.heap.size + 1; omega) (.string (s.extract 1 s.size))
        have hbw : Below w0.heap.size w0 ((wr.drewN nd).setCell ⟨g, 0, none⟩ (.string (s.extract 1 s.size))) := below_set (pw_below_drewN bw.out _) hg
        have hkw : KeepBut w ((wr.drewN nd).setCell ⟨g, 0, none⟩ (.string (s.extract 1 s.size))) g none := KeepBut.set_ (keep_drewN kw.out _) _ _
        have hsz2 : w.heap.size + 1 ≤ ((wr.drewN nd).setCell ⟨g, 0, none⟩ (.string (s.extract 1 s.size))).heap.size := by simpa [World.setCell] using hsz
        clear BR BG bw kw HIb HBr d0 d1 d2 z0 z1 z2 k0 k1 zg
        generalize (wr.drewN nd).setCell ⟨g, 0, none⟩ (.string (s.extract 1 s.size)) = W2 at hgb hrb hib hbw hkw hsz2 ⊢
        have hcell : W2.cell? ⟨g, 1, none⟩ = some (.int .i64 s0_1) := by rw [Lib.cell_of_heap hgb]; rfl
        have GB := Aside0.mk hgb
        have RB := Aside0.mk hrb
        have IB := Aside0.mk hib
        have BW := Aside0.mk hbw
        have KW := Aside0.mk hkw
        clear hgb hrb hib hbw hkw
        go_region_held3 (fun w' => w'.cell? ⟨g, 1, none⟩ = some (.int .i64 s0_1)) (first | exact lex_reader_text.far3 hcell2 n2 | exact hcell2 | exact hcell) (first | (go_at_call 26; refine (Tryd.Builder_String_any (w.heap.size + 1) (w.heap.size + 1) acc _ (by exact IB.out) (by exact hsz2)).mono ?_; rintro e W3 ⟨rfl, hb3⟩; have hcell2 : W3.cell? ⟨g, 1, none⟩ = some (.int .i64 s0_1) := (hb3.cell (p := ⟨g, 1, none⟩) (show g < w.heap.size + 1 by omega)).trans (by exact hcell); have B3 := Aside0.mk hb3; have hr3 : W3.heap[w.heap.size]? = some (.cells #[.int .i64 0, .string (⟨#[]⟩ : ByteArray), .int .i64 0] 25 (0, 0)) := (hb3.block w.heap.size (by omega)).trans (by exact RB.out); have d30 := blk_cell hr3 0; have d31 := blk_cell hr3 1; have d32 := blk_cell hr3 2; simp only [List.size_toArray, List.length_cons, List.length_nil, Nat.reduceAdd, Nat.reduceLT, getElem?_pos, List.getElem_toArray, List.getElem_cons_zero, List.getElem_cons_succ] at d30 d31 d32; have z30 := blk_frozen hr3 0; have z31 := blk_frozen hr3 1; have z32 := blk_frozen hr3 2; have R3 := Aside0.mk hr3; clear hb3 hr3))
        go_wp2_with fail
        have hbe : Below w0.heap.size w0 W3 := (below_drew1 BW.out).trans (B3.out.mono (by omega))
        have hke : KeepBut w W3 g none := ⟨by have := KW.out.1; have h3 : W2.heap.size ≤ W3.heap.size := B3.out.size; omega, fun k hk hne hr => ((show W3.heap[k]? = W2.heap[k]? from B3.out.block k (by omega))).trans (KW.out.2 k hk hne hr)⟩
        have hge : W3.heap[g]? = some (.cells #[.string (s.extract 1 s.size), .int .i64 s0_1] 54 (0, 0)) := (show W3.heap[g]? = W2.heap[g]? from B3.out.block g (by omega)).trans GB.out
        refine bodyPost_ret (results_ct rfl _ _ w.heap.size 25 #[.int .i64 4, .string (⟨acc.toArray⟩ : ByteArray), .int .i64 s0_1] (0, 0) _ rfl (by refine blk_put (cs := #[.int .i64 4, .string (⟨acc.toArray⟩ : ByteArray), .int .i64 0]) ?_ _ _ rfl; refine blk_put (cs := #[.int .i64 4, .string (⟨#[]⟩ : ByteArray), .int .i64 0]) ?_ _ _ rfl; refine blk_put (cs := #[.int .i64 0, .string (⟨#[]⟩ : ByteArray), .int .i64 0]) ?_ _ _ rfl; exact R3.out) Tryd.underlying25 rfl (by kernel_rfl)) rfl ?_
        exact ⟨by first | rfl | simp, ⟨by (with_reducible repeat (first | exact hge | refine blk_far ?_ n2 _)), hg⟩, by with_reducible repeat (first | exact hbe | refine below_set ?_ hs0), by with_reducible repeat (first | exact hke | refine keep_far ?_ (Nat.le_refl _) _)⟩
      · rw [if_neg c2] at hgo
        have HPF := Lib.hid (show strings_HasPrefix.f s ⟨#[34]⟩ = some false by rw [lex_reader_text.pre, decide_eq_false (fun z => c2 (HPre.out.1 z))])
        have c2b : (bt s 0 != 34) = true := bne_iff_ne.mpr c2
        clear c2 HPre
        by_cases c3 : bt s 0 < 32
        · rw [if_pos c3] at hgo
          injection hgo with hx2
          subst hx2
          have HP := HPF
          have c3b : decide (bt s 0 ≥ 32) = false := decide_eq_false (by omega)
          have HN := HH.out
          simp only [Option.some.injEq, Prod.mk.injEq] at HN
          obtain ⟨rfl, rfl, rfl, rfl, rfl, rfl⟩ := HN
          have hR := (HBr.out.block w.heap.size (by omega)).trans hR1
          have hG := (HBr.out.block g (by omega)).trans HI1.out.1
          have d0 : wr.cell? ⟨w.heap.size, 0, none⟩ = some (.int .i64 0) := by rw [Lib.cell_of_heap hR]; rfl
          have d1 : wr.cell? ⟨w.heap.size, 1, none⟩ = some (.string ⟨#[]⟩) := by rw [Lib.cell_of_heap hR]; rfl
          have d2 : wr.cell? ⟨w.heap.size, 2, none⟩ = some (.int .i64 0) := by rw [Lib.cell_of_heap hR]; rfl
          have z0 := blk_frozen hR 0
          have z1 := blk_frozen hR 1
          have z2 := blk_frozen hR 2
          have k0 : wr.cell? ⟨g, 0, none⟩ = some (.string s0_0) := by rw [Lib.cell_of_heap hG]; rfl
          have k1 : wr.cell? ⟨g, 1, none⟩ = some (.int .i64 s0_1) := by rw [Lib.cell_of_heap hG]; rfl
          have zg := blk_frozen hG 0
          have BR := Aside0.mk hR
          have BG := Aside0.mk hG
          have bw := Aside0.mk (HB1.out.trans (HBr.out.mono (by have := HB.out.size; have := HZ.out; omega)))
          have kw := Aside0.mk (show KeepBut w wr g none from ⟨by have := HBr.out.size; have := HZ.out; omega, fun k hk hne hr => (HBr.out.block k (by omega)).trans (HK1.out.2 k hk hne hr)⟩)
          clear hR hG
          go_wp2_with (first | (refine (strings_HasPrefix.calls s ⟨#[34]⟩ false _ HP.out).mono ?_; rintro e w' ⟨rfl, ⟨nd, rfl⟩⟩))
          refine bodyPost_ret (results_ct rfl _ _ w.heap.size 25 #[.int .i64 0, .string (⟨#[]⟩ : ByteArray), .int .i64 0] (0, 0) _ rfl (by (with_reducible repeat (first | exact BR.out | refine blk_drewN ?_ _ | refine blk_drew ?_ | refine blk_put (cs := #[.int .i64 0, .string (⟨#[]⟩ : ByteArray), .int .i64 0]) ?_ _ _ rfl))) Tryd.underlying25 rfl (by kernel_rfl)) rfl ?_
          exact ⟨by first | rfl | simp, ⟨by (with_reducible repeat (first | exact BG.out | refine blk_drewN ?_ _ | refine blk_drew ?_ | refine blk_far ?_ ?_ _ | exact n2 )), hg⟩, by with_reducible repeat (first | exact bw.out | apply pw_below_drewN | apply below_drew1 | refine below_set ?_ hs0), by with_reducible repeat (first | exact kw.out | apply keep_drewN | apply keep_drew | refine keep_far ?_ (Nat.le_refl _) _)⟩
        · rw [if_neg c3] at hgo
          have c3b : decide (bt s 0 ≥ 32) = true := decide_eq_true (by omega)
          have c3c : 32 ≤ bt s 0 := by omega
          clear c3
          by_cases c4 : bt s 0 = 92
          · rw [if_pos c4] at hgo
            have c4b : (bt s 0 == 92) = true := beq_iff_eq.mpr c4
            clear c4
            obtain ⟨⟨q1, q2⟩, he, hgo⟩ := Option.bind_eq_some_iff.mp hgo
            simp only at hgo
            have HE := Lib.hid he
            clear he
            by_cases c5 : q2 = 0
            · rw [if_pos c5] at hgo
              injection hgo with hx2
              subst hx2
              subst c5
              have HN := HH.out
              simp only [Option.some.injEq, Prod.mk.injEq] at HN
              obtain ⟨rfl, rfl, rfl, rfl, rfl, rfl⟩ := HN
              have hR := (HBr.out.block w.heap.size (by omega)).trans hR1
              have hG := (HBr.out.block g (by omega)).trans HI1.out.1
              have d0 : wr.cell? ⟨w.heap.size, 0, none⟩ = some (.int .i64 0) := by rw [Lib.cell_of_heap hR]; rfl
              have d1 : wr.cell? ⟨w.heap.size, 1, none⟩ = some (.string ⟨#[]⟩) := by rw [Lib.cell_of_heap hR]; rfl
              have d2 : wr.cell? ⟨w.heap.size, 2, none⟩ = some (.int .i64 0) := by rw [Lib.cell_of_heap hR]; rfl
              have z0 := blk_frozen hR 0
              have z1 := blk_frozen hR 1
              have z2 := blk_frozen hR 2
              have k0 : wr.cell? ⟨g, 0, none⟩ = some (.string s0_0) := by rw [Lib.cell_of_heap hG]; rfl
              have k1 : wr.cell? ⟨g, 1, none⟩ = some (.int .i64 s0_1) := by rw [Lib.cell_of_heap hG]; rfl
              have zg := blk_frozen hG 0
              have BR := Aside0.mk hR
              have BG := Aside0.mk hG
              have bw := Aside0.mk (HB1.out.trans (HBr.out.mono (by have := HB.out.size; have := HZ.out; omega)))
              have kw := Aside0.mk (show KeepBut w wr g none from ⟨by have := HBr.out.size; have := HZ.out; omega, fun k hk hne hr => (HBr.out.block k (by omega)).trans (HK1.out.2 k hk hne hr)⟩)
              clear hR hG
              go_wp2_with (first | (refine (lex_escaped.calls 40 (s.extract 1 s.size) q1 0 _ HE.out).mono ?_; rintro e w' ⟨rfl, ⟨nd, rfl⟩⟩))
              refine bodyPost_ret (results_ct rfl _ _ w.heap.size 25 #[.int .i64 0, .string (⟨#[]⟩ : ByteArray), .int .i64 0] (0, 0) _ rfl (by (with_reducible repeat (first | exact BR.out | refine blk_drewN ?_ _ | refine blk_drew ?_ | refine blk_put (cs := #[.int .i64 0, .string (⟨#[]⟩ : ByteArray), .int .i64 0]) ?_ _ _ rfl))) Tryd.underlying25 rfl (by kernel_rfl)) rfl ?_
              exact ⟨by first | rfl | simp, ⟨by (with_reducible repeat (first | exact BG.out | refine blk_drewN ?_ _ | refine blk_drew ?_ | refine blk_far ?_ ?_ _ | exact n2 )), hg⟩, by with_reducible repeat (first | exact bw.out | apply pw_below_drewN | apply below_drew1 | refine below_set ?_ hs0), by with_reducible repeat (first | exact kw.out | apply keep_drewN | apply keep_drew | refine keep_far ?_ (Nat.le_refl _) _)⟩
            · rw [if_neg c5] at hgo
              by_cases c6 : 0 ≤ q1 ∧ q1 < 256 ∧ 0 ≤ q2 ∧ q2 ≤ 1000 ∧ q2 + 1 ≤ (s.size : Int) ∧ acc.length + 1 ≤ 1073741824
              case neg => rw [if_neg c6] at hgo; cases hgo
              rw [if_pos c6] at hgo
              obtain ⟨d1, d2, d3, d3b, d4, d5⟩ := c6
              have HG := Lib.hid hgo
              have c5b : (q2 == 0) = false := beq_eq_false_iff_ne.mpr c5
              have d6 : 0 ≤ q2 + 1 := by omega
              have hq : 1 ≤ (q2 + 1).toNat := by omega
              have hcell : (Value.int .u8 q1) = Value.int .u8 ((UInt8.ofNat q1.toNat).toNat : Int) := by
                congr 1
                rw [UInt8.toNat_ofNat']
                omega
              have HCell := Lib.hid hcell
              have HQ := Lib.hid hq
              have hsz1 : w.heap.size + 1 ≤ wr.heap.size := by have := HBr.out.size; have := HZ.out; omega
              clear hgo c5 hcell hq
              go_wp2_with (first | (refine (lex_escaped.calls 40 (s.extract 1 s.size) q1 q2 _ HE.out).mono ?_; rintro e w' ⟨rfl, ⟨nd, rfl⟩⟩))
              refine (Bld.writeByte (w.heap.size + 1) (w.heap.size + 1) (Lib.byteCells acc) q1 _ (Bld.drewN HIb.out _) (by rw [Lib.byteCells_length]; omega) (by exact hsz1)).mono ?_
              rintro e w' ⟨rfl, hi, hb⟩
              go_wp2_with fail
              exact ⟨⟨s.extract (q2 + 1).toNat s.size, acc ++ [UInt8.ofNat q1.toNat], k, rfl, HG, by simp; omega, ⟨by rw [Lib.byteCells_append]; show Lib.IsBuilder _ _ _ _ (Lib.byteCells acc ++ [Value.int .u8 ((UInt8.ofNat q1.toNat).toNat : Int)]) _; rw [← HCell.out]; exact hi⟩, ⟨(pw_below_drewN HBr.out _).trans hb⟩⟩, by show (s.extract (q2 + 1).toNat s.size).size < s.size; have := HQ.out; rw [Str.size_L, Str.post_L, List.length_drop, ← Str.size_L]; omega⟩
          · rw [if_neg c4] at hgo
            have c4b : (bt s 0 == 92) = false := beq_eq_false_iff_ne.mpr c4
            by_cases d5 : acc.length + 1 ≤ 1073741824
            case neg => rw [if_neg d5] at hgo; cases hgo
            rw [if_pos d5] at hgo
            have HG := Lib.hid hgo
            have hcell : (Value.int .u8 (bt s 0)) = Value.int .u8 ((UInt8.ofNat (bt s 0).toNat).toNat : Int) := by
              congr 1
              rw [UInt8.toNat_ofNat']
              omega
            have HCell := Lib.hid hcell
            have hsz1 : w.heap.size + 1 ≤ wr.heap.size := by have := HBr.out.size; have := HZ.out; omega
            clear hgo c4 hcell
            go_wp2_with fail
            refine (Bld.writeByte (w.heap.size + 1) (w.heap.size + 1) (Lib.byteCells acc) (bt s 0) _ HIb.out (by rw [Lib.byteCells_length]; omega) hsz1).mono ?_
            rintro e w' ⟨rfl, hi, hb⟩
            go_wp2_with fail
            exact ⟨⟨s.extract 1 s.size, acc ++ [UInt8.ofNat (bt s 0).toNat], k, rfl, HG, by simp; omega, ⟨by rw [Lib.byteCells_append]; show Lib.IsBuilder _ _ _ _ (Lib.byteCells acc ++ [Value.int .u8 ((UInt8.ofNat (bt s 0).toNat).toNat : Int)]) _; rw [← HCell.out]; exact hi⟩, ⟨HBr.out.trans hb⟩⟩, by show (s.extract 1 s.size).size < s.size; rw [Str.size_L, Str.post_L, List.length_drop, ← Str.size_L]; omega⟩

/-! ### lex_reader_token: function 22, by hand -/
def lex_reader_token.f (s : ByteArray) (ln : Int) : Option (Int × ByteArray × Int × Bool × ByteArray × Int) :=
  if 1 ≤ s.size then (lex_letter.f (bt s 0)).bind fun a => if a = true then lex_reader_run.f s ln 1 1 ⟨#[95, 45]⟩ else
    (lex_digit.f (bt s 0)).bind fun d => if d = true then lex_reader_run.f s ln 2 1 ⟨#[46]⟩ else
    if bt s 0 = 36 then lex_reader_run.f s ln 3 1 ⟨#[46, 95, 45, 35, 64]⟩ else
    if bt s 0 = 34 then lex_reader_text.f s ln else
    (strings_IndexByte.f ⟨#[123, 125, 40, 41, 59, 61, 43, 44]⟩ (bt s 0)).bind fun e => if 0 ≤ e then some (5, strOfNums [bt s 0], ln, true, s.extract 1 s.size, ln) else some (0, ⟨#[]⟩, 0, false, s, ln)
  else none
theorem lex_reader_token.key (w : World) (b : Nat) (x : Int) (hb : w.heap[b]? = some (.cells #[.int .u8 x] 5 (0, 0))) : (convert 48 9 (.slice (some ⟨b, 0, none⟩) 1 1)).run Tryd.prog w = .ok (.string (strOfNums [x])) w := by
  have hroom : Go.Proofs.YtnghebedingjaaaDoor.Oct.Room w b 5 1 0 [x] := ⟨_, hb, rfl, by decide, rfl⟩
  exact hroom.text 48 5 Tryd.underlying48 Tryd.underlying5 9 Tryd.underlying9 1 1 rfl
theorem lex_reader_token.keep_src {w w1 : World} {g : Nat} {row : Option Nat} {n : Nat} (h : KeepBut (w.drewN n) w1 g row) : KeepBut w w1 g row := h
set_option maxHeartbeats 4000000 in
set_option maxRecDepth 100000 in
theorem lex_reader_token.calls (g : Nat) (s0_0 : ByteArray) (s0_1 : Int) (r1 : Int) (r2 : ByteArray) (r3 : Int) (r4 : Bool) (r5 : ByteArray) (r6 : Int) (w0 w : World) (hI : IsS54 w0 w g s0_0 s0_1) (hB : Below w0.heap.size w0 w) (h : lex_reader_token.f s0_0 s0_1 = some (r1, r2, r3, r4, r5, r6)) :
    Calls Tryd.prog 22 #[.pointer (some ⟨g, 0, none⟩)] w fun e w' => e = .returned (.tuple #[.agg #[.int .i64 r1, .string r2, .int .i64 r3], .bool r4]) ∧ IsS54 w0 w' g r5 r6 ∧ Below w0.heap.size w0 w' ∧ KeepBut w w' g none := by
  unfold lex_reader_token.f at h
  by_cases h1 : 1 ≤ s0_0.size
  case neg => rw [if_neg h1] at h; cases h
  rw [if_pos h1] at h
  obtain ⟨a, ha, h⟩ := Option.bind_eq_some_iff.mp h
  have HA := Lib.hid ha
  have HH := Lib.hid h
  clear ha h
  have hg := hI.2
  have hlt := hI.lt
  have n1 : ¬ w.heap.size = g := by omega
  have n2 : ¬ g = w.heap.size := by omega
  have i1 : (1 : Int) ≤ (s0_0.size : Int) := by omega
  have i0 : (0 : Int) < (s0_0.size : Int) := by omega
  have hp : 0 < s0_0.size := by omega
  have hs0 : w0.heap.size ≤ w.heap.size := hB.size
  have HI := Aside0.mk hI
  have HB := Aside0.mk hB
  clear hI hB
  have hx : ∀ h : 0 < s0_0.size, (((s0_0[0]'h).toNat : Nat) : Int) = bt s0_0 0 := by
    intro h
    unfold bt
    rw [dif_pos (by simpa using h)]
    simp
  go_enter Tryd.func22, Tryd.ntmps22
  have hR1 : (w.alloc (.cells #[.int .i64 0, .string ⟨#[]⟩, .int .i64 0] 25)).heap[w.heap.size]? = some (.cells #[.int .i64 0, .string ⟨#[]⟩, .int .i64 0] 25 (0, 0)) := heap_alloc_new w _
  have HI1 := Aside0.mk (HI.out.alloc (.cells #[.int .i64 0, .string ⟨#[]⟩, .int .i64 0] 25))
  have HB1 := Aside0.mk (below_alloc HB.out (.cells #[.int .i64 0, .string ⟨#[]⟩, .int .i64 0] 25))
  have HK1 := Aside0.mk (keep_alloc (KeepBut.refl w g none) (.cells #[.int .i64 0, .string ⟨#[]⟩, .int .i64 0] 25))
  go_upto_region 1 with (fail)
  have hz : w.heap.size + 1 = (w.alloc (.cells #[.int .i64 0, .string ⟨#[]⟩, .int .i64 0] 25)).heap.size := by simp
  generalize w.alloc (.cells #[.int .i64 0, .string ⟨#[]⟩, .int .i64 0] 25) = W1 at hR1 HI1 HB1 HK1 hz ⊢
  have HZ := Lib.hid hz
  have R1 := Aside0.mk hR1
  clear hz hR1
  have c0 : W1.cell? ⟨g, 0, none⟩ = some (.string s0_0) := by rw [Lib.cell_of_heap HI1.out.1]; rfl
  go_upto_block 0 with (fail)
  clear c0
  by_cases hat : a = true
  · subst hat
    have hh := HH.out
    rw [if_pos rfl] at hh
    have HH := Lib.hid hh
    clear hh
    go_wp2_with (first | (refine (lex_letter.calls (bt s0_0 0) true _ HA.out).mono ?_; rintro e w' ⟨rfl, ⟨nd, rfl⟩⟩) | (refine (lex_reader_run.calls g s0_0 s0_1 1 1 ⟨#[95, 45]⟩ r1 r2 r3 r4 r5 r6 w0 _ (by with_reducible repeat (first | exact HI1.out | apply IsS54.drewN | apply IsS54.drew)) (by with_reducible repeat (first | exact HB1.out | apply pw_below_drewN | apply below_drew1)) HH.out).mono ?_; rintro e W3 ⟨rfl, hi3, hb3, hk3⟩; have hr3 : W3.heap[w.heap.size]? = some (.cells #[.int .i64 0, .string (⟨#[]⟩ : ByteArray), .int .i64 0] 25 (0, 0)) := (hk3.2 w.heap.size (by have := HZ.out; simp; omega) n1 (by simp)).trans R1.out; have d30 := blk_cell hr3 0; have d31 := blk_cell hr3 1; have d32 := blk_cell hr3 2; simp only [List.size_toArray, List.length_cons, List.length_nil, Nat.reduceAdd, Nat.reduceLT, getElem?_pos, List.getElem_toArray, List.getElem_cons_zero, List.getElem_cons_succ] at d30 d31 d32; have z30 := blk_frozen hr3 0; have z31 := blk_frozen hr3 1; have z32 := blk_frozen hr3 2; have R3 := Aside0.mk hr3; have I3 := Aside0.mk hi3; have B3 := Aside0.mk hb3; have K3 := Aside0.mk (HK1.out.trans (lex_reader_token.keep_src hk3) (.inl rfl)); clear hr3 hi3 hb3 hk3))
    refine bodyPost_ret (results_ct rfl _ _ w.heap.size 25 #[.int .i64 r1, .string r2, .int .i64 r3] (0, 0) _ rfl (by refine blk_put (cs := #[.int .i64 r1, .string r2, .int .i64 0]) ?_ _ _ rfl; refine blk_put (cs := #[.int .i64 r1, .string (⟨#[]⟩ : ByteArray), .int .i64 0]) ?_ _ _ rfl; refine blk_put (cs := #[.int .i64 0, .string (⟨#[]⟩ : ByteArray), .int .i64 0]) ?_ _ _ rfl; exact R3.out) Tryd.underlying25 rfl (by kernel_rfl)) rfl ?_
    exact ⟨by first | rfl | simp, by with_reducible repeat (first | exact I3.out | refine IsS54.far ?_ n2 _), by with_reducible repeat (first | exact B3.out | refine below_set ?_ hs0), by with_reducible repeat (first | exact K3.out | refine keep_far ?_ (Nat.le_refl _) _)⟩
  · obtain rfl : a = false := by simpa using hat
    have hh := HH.out
    rw [if_neg (by simp)] at hh
    obtain ⟨d, hd, hh⟩ := Option.bind_eq_some_iff.mp hh
    have HD := Lib.hid hd
    clear hd hat
    by_cases hdt : d = true
    · subst hdt
      rw [if_pos rfl] at hh
      have HH := Lib.hid hh
      clear hh
      go_wp2_with (first | (refine (lex_letter.calls (bt s0_0 0) false _ HA.out).mono ?_; rintro e w' ⟨rfl, ⟨nd, rfl⟩⟩) | (refine (lex_digit.calls (bt s0_0 0) true _ HD.out).mono ?_; rintro e w' ⟨rfl, ⟨nd2, rfl⟩⟩) | (refine (lex_reader_run.calls g s0_0 s0_1 2 1 ⟨#[46]⟩ r1 r2 r3 r4 r5 r6 w0 _ (by with_reducible repeat (first | exact HI1.out | apply IsS54.drewN | apply IsS54.drew)) (by with_reducible repeat (first | exact HB1.out | apply pw_below_drewN | apply below_drew1)) HH.out).mono ?_; rintro e W3 ⟨rfl, hi3, hb3, hk3⟩; have hr3 : W3.heap[w.heap.size]? = some (.cells #[.int .i64 0, .string (⟨#[]⟩ : ByteArray), .int .i64 0] 25 (0, 0)) := (hk3.2 w.heap.size (by have := HZ.out; simp; omega) n1 (by simp)).trans R1.out; have d30 := blk_cell hr3 0; have d31 := blk_cell hr3 1; have d32 := blk_cell hr3 2; simp only [List.size_toArray, List.length_cons, List.length_nil, Nat.reduceAdd, Nat.reduceLT, getElem?_pos, List.getElem_toArray, List.getElem_cons_zero, List.getElem_cons_succ] at d30 d31 d32; have z30 := blk_frozen hr3 0; have z31 := blk_frozen hr3 1; have z32 := blk_frozen hr3 2; have R3 := Aside0.mk hr3; have I3 := Aside0.mk hi3; have B3 := Aside0.mk hb3; have K3 := Aside0.mk (HK1.out.trans (lex_reader_token.keep_src hk3) (.inl rfl)); clear hr3 hi3 hb3 hk3))
      refine bodyPost_ret (results_ct rfl _ _ w.heap.size 25 #[.int .i64 r1, .string r2, .int .i64 r3] (0, 0) _ rfl (by refine blk_put (cs := #[.int .i64 r1, .string r2, .int .i64 0]) ?_ _ _ rfl; refine blk_put (cs := #[.int .i64 r1, .string (⟨#[]⟩ : ByteArray), .int .i64 0]) ?_ _ _ rfl; refine blk_put (cs := #[.int .i64 0, .string (⟨#[]⟩ : ByteArray), .int .i64 0]) ?_ _ _ rfl; exact R3.out) Tryd.underlying25 rfl (by kernel_rfl)) rfl ?_
      exact ⟨by first | rfl | simp, by with_reducible repeat (first | exact I3.out | refine IsS54.far ?_ n2 _), by with_reducible repeat (first | exact B3.out | refine below_set ?_ hs0), by with_reducible repeat (first | exact K3.out | refine keep_far ?_ (Nat.le_refl _) _)⟩
    · obtain rfl : d = false := by simpa using hdt
      rw [if_neg (by simp)] at hh
      clear hdt
      by_cases h36 : bt s0_0 0 = 36
      · rw [if_pos h36] at hh
        have HH := Lib.hid hh
        have c36 : (bt s0_0 0 == 36) = true := beq_iff_eq.mpr h36
        clear hh h36
        go_wp2_with (first | (refine (lex_letter.calls (bt s0_0 0) false _ HA.out).mono ?_; rintro e w' ⟨rfl, ⟨nd, rfl⟩⟩) | (refine (lex_digit.calls (bt s0_0 0) false _ HD.out).mono ?_; rintro e w' ⟨rfl, ⟨nd2, rfl⟩⟩) | (refine (lex_reader_run.calls g s0_0 s0_1 3 1 ⟨#[46, 95, 45, 35, 64]⟩ r1 r2 r3 r4 r5 r6 w0 _ (by with_reducible repeat (first | exact HI1.out | apply IsS54.drewN | apply IsS54.drew)) (by with_reducible repeat (first | exact HB1.out | apply pw_below_drewN | apply below_drew1)) HH.out).mono ?_; rintro e W3 ⟨rfl, hi3, hb3, hk3⟩; have hr3 : W3.heap[w.heap.size]? = some (.cells #[.int .i64 0, .string (⟨#[]⟩ : ByteArray), .int .i64 0] 25 (0, 0)) := (hk3.2 w.heap.size (by have := HZ.out; simp; omega) n1 (by simp)).trans R1.out; have d30 := blk_cell hr3 0; have d31 := blk_cell hr3 1; have d32 := blk_cell hr3 2; simp only [List.size_toArray, List.length_cons, List.length_nil, Nat.reduceAdd, Nat.reduceLT, getElem?_pos, List.getElem_toArray, List.getElem_cons_zero, List.getElem_cons_succ] at d30 d31 d32; have z30 := blk_frozen hr3 0; have z31 := blk_frozen hr3 1; have z32 := blk_frozen hr3 2; have R3 := Aside0.mk hr3; have I3 := Aside0.mk hi3; have B3 := Aside0.mk hb3; have K3 := Aside0.mk (HK1.out.trans (lex_reader_token.keep_src hk3) (.inl rfl)); clear hr3 hi3 hb3 hk3))
        refine bodyPost_ret (results_ct rfl _ _ w.heap.size 25 #[.int .i64 r1, .string r2, .int .i64 r3] (0, 0) _ rfl (by refine blk_put (cs := #[.int .i64 r1, .string r2, .int .i64 0]) ?_ _ _ rfl; refine blk_put (cs := #[.int .i64 r1, .string (⟨#[]⟩ : ByteArray), .int .i64 0]) ?_ _ _ rfl; refine blk_put (cs := #[.int .i64 0, .string (⟨#[]⟩ : ByteArray), .int .i64 0]) ?_ _ _ rfl; exact R3.out) Tryd.underlying25 rfl (by kernel_rfl)) rfl ?_
        exact ⟨by first | rfl | simp, by with_reducible repeat (first | exact I3.out | refine IsS54.far ?_ n2 _), by with_reducible repeat (first | exact B3.out | refine below_set ?_ hs0), by with_reducible repeat (first | exact K3.out | refine keep_far ?_ (Nat.le_refl _) _)⟩
      · rw [if_neg h36] at hh
        have c36 : (bt s0_0 0 == 36) = false := beq_eq_false_iff_ne.mpr h36
        clear h36
        by_cases h34 : bt s0_0 0 = 34
        · rw [if_pos h34] at hh
          have HH := Lib.hid hh
          have c34 : (bt s0_0 0 == 34) = true := beq_iff_eq.mpr h34
          clear hh h34
          go_wp2_with (first | (refine (lex_letter.calls (bt s0_0 0) false _ HA.out).mono ?_; rintro e w' ⟨rfl, ⟨nd, rfl⟩⟩) | (refine (lex_digit.calls (bt s0_0 0) false _ HD.out).mono ?_; rintro e w' ⟨rfl, ⟨nd2, rfl⟩⟩) | (refine (lex_reader_text.calls g s0_0 s0_1 r1 r2 r3 r4 r5 r6 w0 _ (by with_reducible repeat (first | exact HI1.out | apply IsS54.drewN | apply IsS54.drew)) (by with_reducible repeat (first | exact HB1.out | apply pw_below_drewN | apply below_drew1)) HH.out).mono ?_; rintro e W3 ⟨rfl, hi3, hb3, hk3⟩; have hr3 : W3.heap[w.heap.size]? = some (.cells #[.int .i64 0, .string (⟨#[]⟩ : ByteArray), .int .i64 0] 25 (0, 0)) := (hk3.2 w.heap.size (by have := HZ.out; simp; omega) n1 (by simp)).trans R1.out; have d30 := blk_cell hr3 0; have d31 := blk_cell hr3 1; have d32 := blk_cell hr3 2; simp only [List.size_toArray, List.length_cons, List.length_nil, Nat.reduceAdd, Nat.reduceLT, getElem?_pos, List.getElem_toArray, List.getElem_cons_zero, List.getElem_cons_succ] at d30 d31 d32; have z30 := blk_frozen hr3 0; have z31 := blk_frozen hr3 1; have z32 := blk_frozen hr3 2; have R3 := Aside0.mk hr3; have I3 := Aside0.mk hi3; have B3 := Aside0.mk hb3; have K3 := Aside0.mk (HK1.out.trans (lex_reader_token.keep_src hk3) (.inl rfl)); clear hr3 hi3 hb3 hk3))
          refine bodyPost_ret (results_ct rfl _ _ w.heap.size 25 #[.int .i64 r1, .string r2, .int .i64 r3] (0, 0) _ rfl (by refine blk_put (cs := #[.int .i64 r1, .string r2, .int .i64 0]) ?_ _ _ rfl; refine blk_put (cs := #[.int .i64 r1, .string (⟨#[]⟩ : ByteArray), .int .i64 0]) ?_ _ _ rfl; refine blk_put (cs := #[.int .i64 0, .string (⟨#[]⟩ : ByteArray), .int .i64 0]) ?_ _ _ rfl; exact R3.out) Tryd.underlying25 rfl (by kernel_rfl)) rfl ?_
          exact ⟨by first | rfl | simp, by with_reducible repeat (first | exact I3.out | refine IsS54.far ?_ n2 _), by with_reducible repeat (first | exact B3.out | refine below_set ?_ hs0), by with_reducible repeat (first | exact K3.out | refine keep_far ?_ (Nat.le_refl _) _)⟩
        · rw [if_neg h34] at hh
          have c34 : (bt s0_0 0 == 34) = false := beq_eq_false_iff_ne.mpr h34
          clear h34
          obtain ⟨e, he, hh⟩ := Option.bind_eq_some_iff.mp hh
          have HE := Lib.hid he
          clear he
          by_cases he0 : 0 ≤ e
          · rw [if_pos he0] at hh
            simp only [Option.some.injEq, Prod.mk.injEq] at hh
            obtain ⟨rfl, rfl, rfl, rfl, rfl, rfl⟩ := hh
            have ce : decide (e ≥ 0) = true := decide_eq_true he0
            go_upto_region 11 with (first | (refine (lex_letter.calls (bt s0_0 0) false _ HA.out).mono ?_; rintro e w' ⟨rfl, ⟨nd, rfl⟩⟩) | (refine (lex_digit.calls (bt s0_0 0) false _ HD.out).mono ?_; rintro e w' ⟨rfl, ⟨nd2, rfl⟩⟩) | (refine (strings_IndexByte.calls _ _ e _ HE.out).mono ?_; rintro e w' ⟨rfl, ⟨nd3, rfl⟩⟩))
            have k0 : W1.cell? ⟨g, 0, none⟩ = some (.string s0_0) := by rw [Lib.cell_of_heap HI1.out.1]; rfl
            have z0 := blk_frozen HI1.out.1 0
            go_upto_region 12 with (fail)
            clear k0 z0
            have hr4 : ((W1.drewN (nd + nd2 + nd3)).setCell ⟨g, 0, none⟩ (.string (s0_0.extract 1 s0_0.size))).heap[w.heap.size]? = some (.cells #[.int .i64 0, .string (⟨#[]⟩ : ByteArray), .int .i64 0] 25 (0, 0)) := blk_far (blk_drewN R1.out _) n1 _
            have I4 := Aside0.mk ((HI1.out.drewN (nd + nd2 + nd3)).set_0 (s0_0.extract 1 s0_0.size))
            have B4 := Aside0.mk (show Below w0.heap.size w0 ((W1.drewN (nd + nd2 + nd3)).setCell ⟨g, 0, none⟩ (.string (s0_0.extract 1 s0_0.size))) from below_set (pw_below_drewN HB1.out _) hg)
            have K4 := Aside0.mk (show KeepBut w ((W1.drewN (nd + nd2 + nd3)).setCell ⟨g, 0, none⟩ (.string (s0_0.extract 1 s0_0.size))) g none from KeepBut.set_ (keep_drewN HK1.out _) _ _)
            have hsz4 : w.heap.size < ((W1.drewN (nd + nd2 + nd3)).setCell ⟨g, 0, none⟩ (.string (s0_0.extract 1 s0_0.size))).heap.size := blk_lt hr4
            generalize (W1.drewN (nd + nd2 + nd3)).setCell ⟨g, 0, none⟩ (.string (s0_0.extract 1 s0_0.size)) = W4 at hr4 I4 B4 K4 hsz4 ⊢
            have kconv := lex_reader_token.key ((W4.alloc (Obj.cells #[.int .u8 (bt s0_0 0)] 5)).drew) W4.heap.size (bt s0_0 0) (heap_alloc_new W4 _)
            have hr5 : (W4.alloc (Obj.cells #[.int .u8 (bt s0_0 0)] 5)).heap[w.heap.size]? = some (.cells #[.int .i64 0, .string (⟨#[]⟩ : ByteArray), .int .i64 0] 25 (0, 0)) := (Lib.alloc_old W4 _ _ hsz4).trans hr4
            have hg5 : (W4.alloc (Obj.cells #[.int .u8 (bt s0_0 0)] 5)).heap[g]? = some (.cells #[.string (s0_0.extract 1 s0_0.size), .int .i64 s0_1] 54 (0, 0)) := (Lib.alloc_old W4 _ _ (blk_lt I4.out.1)).trans I4.out.1
            have d30 := blk_cell hr4 0
            have d31 := blk_cell hr4 1
            have d32 := blk_cell hr4 2
            simp only [List.size_toArray, List.length_cons, List.length_nil, Nat.reduceAdd, Nat.reduceLT, getElem?_pos, List.getElem_toArray, List.getElem_cons_zero, List.getElem_cons_succ] at d30 d31 d32
            have z30 := blk_frozen hr4 0
            have z31 := blk_frozen hr4 1
            have z32 := blk_frozen hr4 2
            have k1 : W4.cell? ⟨g, 1, none⟩ = some (.int .i64 s0_1) := by rw [Lib.cell_of_heap I4.out.1]; rfl
            have k2 : (W4.alloc (Obj.cells #[.int .u8 (bt s0_0 0)] 5)).cell? ⟨g, 1, none⟩ = some (.int .i64 s0_1) := by rw [Lib.cell_of_heap hg5]; rfl
            have R4 := Aside0.mk hr4
            have I5 := Aside0.mk (I4.out.alloc (Obj.cells #[.int .u8 (bt s0_0 0)] 5))
            have B5 := Aside0.mk (below_alloc B4.out (Obj.cells #[.int .u8 (bt s0_0 0)] 5))
            have K5 := Aside0.mk (keep_alloc K4.out (Obj.cells #[.int .u8 (bt s0_0 0)] 5))
            clear hr4 hr5 hg5
            go_region
            go_wp2_with fail
            refine bodyPost_ret (results_ct rfl _ _ w.heap.size 25 #[.int .i64 5, .string (strOfNums [bt s0_0 0]), .int .i64 s0_1] (0, 0) _ rfl (by (with_reducible repeat (first | refine blk_drewN ?_ _ | refine blk_drew ?_ | refine blk_alloc ?_ _)); refine blk_put (cs := #[.int .i64 5, .string (strOfNums [bt s0_0 0]), .int .i64 0]) ?_ _ _ rfl; refine blk_put (cs := #[.int .i64 5, .string (⟨#[]⟩ : ByteArray), .int .i64 0]) ?_ _ _ rfl; refine blk_put (cs := #[.int .i64 0, .string (⟨#[]⟩ : ByteArray), .int .i64 0]) ?_ _ _ rfl; exact R4.out) Tryd.underlying25 rfl (by kernel_rfl)) rfl ?_
            exact ⟨by first | rfl | simp, by with_reducible repeat (first | exact I4.out | apply IsS54.drewN | apply IsS54.drew | apply IsS54.alloc | refine IsS54.far ?_ n2 _), by with_reducible repeat (first | exact B4.out | exact hs0 | apply pw_below_drewN | apply below_drew1 | apply below_alloc | refine below_set ?_ hs0), by with_reducible repeat (first | exact K4.out | apply keep_drewN | apply keep_drew | apply keep_alloc | refine keep_far ?_ (Nat.le_refl _) _)⟩
          · rw [if_neg he0] at hh
            simp only [Option.some.injEq, Prod.mk.injEq] at hh
            obtain ⟨rfl, rfl, rfl, rfl, rfl, rfl⟩ := hh
            have ce : decide (e ≥ 0) = false := decide_eq_false (by omega)
            go_upto_region 13 with (first | (refine (lex_letter.calls (bt s0_0 0) false _ HA.out).mono ?_; rintro e w' ⟨rfl, ⟨nd, rfl⟩⟩) | (refine (lex_digit.calls (bt s0_0 0) false _ HD.out).mono ?_; rintro e w' ⟨rfl, ⟨nd2, rfl⟩⟩) | (refine (strings_IndexByte.calls _ _ e _ HE.out).mono ?_; rintro e w' ⟨rfl, ⟨nd3, rfl⟩⟩))
            have hr4 : (W1.drewN (nd + nd2 + nd3)).heap[w.heap.size]? = some (.cells #[.int .i64 0, .string (⟨#[]⟩ : ByteArray), .int .i64 0] 25 (0, 0)) := blk_drewN R1.out _
            have d30 := blk_cell R1.out 0
            have d31 := blk_cell R1.out 1
            have d32 := blk_cell R1.out 2
            simp only [List.size_toArray, List.length_cons, List.length_nil, Nat.reduceAdd, Nat.reduceLT, getElem?_pos, List.getElem_toArray, List.getElem_cons_zero, List.getElem_cons_succ] at d30 d31 d32
            have z30 := blk_frozen R1.out 0
            have z31 := blk_frozen R1.out 1
            have z32 := blk_frozen R1.out 2
            have R4 := Aside0.mk hr4
            clear hr4
            go_wp2_with fail
            refine bodyPost_ret (results_ct rfl _ _ w.heap.size 25 #[.int .i64 0, .string (⟨#[]⟩ : ByteArray), .int .i64 0] (0, 0) _ rfl (by with_reducible repeat (first | exact R4.out | refine blk_put (cs := #[.int .i64 0, .string (⟨#[]⟩ : ByteArray), .int .i64 0]) ?_ _ _ rfl)) Tryd.underlying25 rfl (by kernel_rfl)) rfl ?_
            exact ⟨by first | rfl | simp, by with_reducible repeat (first | exact HI1.out | apply IsS54.drewN | refine IsS54.far ?_ n2 _), by with_reducible repeat (first | exact HB1.out | apply pw_below_drewN | refine below_set ?_ hs0), by with_reducible repeat (first | exact HK1.out | apply keep_drewN | refine keep_far ?_ (Nat.le_refl _) _)⟩

/-! ### strings_Count: function 16, by hand -/
def strings_Count.f (a0 a1 : ByteArray) : Option Int := if a1.size = 1 then some (Lib.countByte a0.data.toList (a1.data.toList.getD 0 0)) else none
theorem strings_Count.calls (a0 a1 : ByteArray) (r : Int) (w : World) (h : strings_Count.f a0 a1 = some r) :
    Calls Tryd.prog 16 #[.string a0, .string a1] w fun e w' => e = .returned (.int .i64 r) ∧ Drawn0 w w' := by
  unfold strings_Count.f at h
  by_cases h1 : a1.size = 1
  · rw [if_pos h1] at h
    injection h with h
    obtain ⟨c, hc⟩ : ∃ c, a1.data.toList = [c] := List.length_eq_one_iff.mp (by simpa using h1)
    have e : a1 = ⟨#[c]⟩ := Str.ext hc
    subst e
    subst h
    refine (Tryd.strings_Count_one a0 c w).mono ?_
    rintro e w' ⟨rfl, rfl⟩
    exact ⟨rfl, Drawn0.refl _⟩
  · rw [if_neg h1] at h
    cases h

/-! ### strings_TrimLeft: function 44, by hand -/
def strings_TrimLeft.f (a0 a1 : ByteArray) : Option ByteArray := if a1.size ≤ 100 ∧ a1.data.toList.all (fun b => decide (b.toNat < 128)) = true then some ⟨(Lib.trimLeftS a0.data.toList a1.data.toList).toArray⟩ else none
theorem strings_TrimLeft.calls (a0 a1 : ByteArray) (r : ByteArray) (w : World) (h : strings_TrimLeft.f a0 a1 = some r) :
    Calls Tryd.prog 44 #[.string a0, .string a1] w fun e w' => e = .returned (.string r) ∧ Below w.heap.size w w' := by
  unfold strings_TrimLeft.f at h
  by_cases h1 : a1.size ≤ 100 ∧ a1.data.toList.all (fun b => decide (b.toNat < 128)) = true
  · rw [if_pos h1] at h
    injection h with h
    subst h
    exact Go.Proofs.Any.strings_TrimLeft_laid Tryd.lays161 (by kernel_rfl) a0 a1 w (by omega) (Go.Proofs.ascii_of_all h1.2)
  · rw [if_neg h1] at h
    cases h

/-! ### lex_reader_skip: function 28, by hand -/
def lex_reader_skip.len (g : Nat) (w : World) : Nat := match w.cell? ⟨g, 0, none⟩ with
  | some (.string t) => t.size
  | _ => 0
def lex_reader_skip.left (s t : ByteArray) : ByteArray := s.extract (s.size - t.size) s.size
def lex_reader_skip.go : Nat → ByteArray → Int → Option (ByteArray × Int)
  | 0, _, _ => none
  | k + 1, s, ln => (strings_TrimLeft.f s ⟨#[9, 10, 13, 32]⟩).bind fun t =>
    if t.size ≤ s.size ∧ s.size ≤ 1073741824 ∧ (lex_reader_skip.left s t).size ≤ s.size then (strings_Count.f (s.extract 0 (s.size - t.size)) ⟨#[10]⟩).bind fun c =>
    if 0 ≤ ln ∧ ln ≤ 1073741824 ∧ 0 ≤ c ∧ c ≤ 1073741824 then (strings_HasPrefix.f (lex_reader_skip.left s t) ⟨#[35]⟩).bind fun b =>
    if b = false then some (lex_reader_skip.left s t, ln + c)
    else (strings_IndexByte.f (lex_reader_skip.left s t) 10).bind fun e =>
      if 1 ≤ (lex_reader_skip.left s t).size then (if e < 0 then lex_reader_skip.go k ((lex_reader_skip.left s t).extract (lex_reader_skip.left s t).size (lex_reader_skip.left s t).size) (ln + c)
      else if 1 ≤ e ∧ e ≤ ((lex_reader_skip.left s t).size : Int) then lex_reader_skip.go k ((lex_reader_skip.left s t).extract e.toNat (lex_reader_skip.left s t).size) (ln + c) else none) else none
    else none
    else none
def lex_reader_skip.f (s0_0 : ByteArray) (s0_1 : Int) : Option (ByteArray × Int) := lex_reader_skip.go (s0_0.size + 1) s0_0 s0_1
theorem lex_reader_skip.len_eq {w0 w : World} {g : Nat} {s : ByteArray} {ln : Int} (h : IsS54 w0 w g s ln) : lex_reader_skip.len g w = s.size := by
  unfold lex_reader_skip.len
  rw [Lib.cell_of_heap h.1]
  rfl
set_option maxHeartbeats 4000000 in
set_option maxRecDepth 100000 in
theorem lex_reader_skip.calls (g : Nat) (s0_0 : ByteArray) (s0_1 : Int) (r1 : ByteArray) (r2 : Int) (w0 w : World) (hI : IsS54 w0 w g s0_0 s0_1) (hB : Below w0.heap.size w0 w) (h : lex_reader_skip.f s0_0 s0_1 = some (r1, r2)) :
    Calls Tryd.prog 28 #[.pointer (some ⟨g, 0, none⟩)] w fun e w' => e = .returned (.tuple #[]) ∧ IsS54 w0 w' g r1 r2 ∧ Below w0.heap.size w0 w' ∧ KeepBut w w' g none := by
  unfold lex_reader_skip.f at h
  have H0 := Lib.hid h
  have hg := hI.2
  have HI := Aside0.mk hI
  have HB := Aside0.mk hB
  clear hI hB h
  go_enter Tryd.func28, Tryd.ntmps28
  go_wp2_with fail
  go_loopw [2] (fun v2 wr => ∃ (s : ByteArray) (ln : Int) (k : Nat), Hid (lex_reader_skip.go k s ln = some (r1, r2)) ∧ Aside0 (IsS54 w0 wr g s ln) ∧ Aside0 (Below w0.heap.size w0 wr) ∧ Aside0 (KeepBut w wr g none)) (fun _ wr => lex_reader_skip.len g wr)
  case atStart => exact ⟨s0_0, s0_1, _, H0, HI, HB, ⟨KeepBut.refl _ _ _⟩⟩
  case round =>
    obtain ⟨s, ln, k, HG, HI', HB', HK'⟩ := hrel
    clear H0 HI HB
    have hgo := HG.out
    cases k with
    | zero => simp [lex_reader_skip.go] at hgo
    | succ k =>
    rw [lex_reader_skip.go] at hgo
    clear HG
    obtain ⟨t, ht, hgo⟩ := Option.bind_eq_some_iff.mp hgo
    by_cases q1 : t.size ≤ s.size ∧ s.size ≤ 1073741824 ∧ (lex_reader_skip.left s t).size ≤ s.size
    case neg => rw [if_neg q1] at hgo; cases hgo
    rw [if_pos q1] at hgo
    obtain ⟨c, hc, hgo⟩ := Option.bind_eq_some_iff.mp hgo
    by_cases q2 : 0 ≤ ln ∧ ln ≤ 1073741824 ∧ 0 ≤ c ∧ c ≤ 1073741824
    case neg => rw [if_neg q2] at hgo; cases hgo
    rw [if_pos q2] at hgo
    obtain ⟨b, hb, hgo⟩ := Option.bind_eq_some_iff.mp hgo
    obtain ⟨q10, q11, q12⟩ := q1
    obtain ⟨q20, q21, q22, q23⟩ := q2
    have HTr := Lib.hid ht
    have HCo := Lib.hid hc
    have HPr := Lib.hid hb
    have HG := Lib.hid hgo
    have HQ := Lib.hid q12
    clear ht hc hb hgo q12
    have k0 : wr.cell? ⟨g, 0, none⟩ = some (.string s) := by rw [Lib.cell_of_heap HI'.out.1]; rfl
    have p0 : (0 : Int) ≤ (s.size : Int) - (t.size : Int) := by omega
    have p1 : (s.size : Int) - (t.size : Int) ≤ (s.size : Int) := by omega
    have hlen : lex_reader_skip.len g wr = s.size := by unfold lex_reader_skip.len; rw [k0]
    have HL := Lib.hid hlen
    clear hlen
    go_upto_region 0 with (fail)
    go_region_held3 (fun w' => w'.cell? ⟨g, 0, none⟩ = some (.string s)) (first | exact k2 | exact k0) (first | (go_at_call 44; refine (strings_TrimLeft.calls s ⟨#[9, 10, 13, 32]⟩ t _ HTr.out).mono ?_; rintro e W3 ⟨rfl, hb3⟩; have k2 : W3.cell? ⟨g, 0, none⟩ = some (.string s) := (hb3.cell (p := ⟨g, 0, none⟩) (blk_lt HI'.out.1)).trans (by exact k0); have B3 := Aside0.mk hb3; clear hb3))
    have hI3 : IsS54 w0 W3 g s ln := ⟨(B3.out.block g (blk_lt HI'.out.1)).trans HI'.out.1, hg⟩
    have hB3 : Below w0.heap.size w0 W3 := (below_drew1 HB'.out).trans (B3.out.mono HB'.out.size)
    have hK3 : KeepBut w W3 g none := ⟨Nat.le_trans HK'.out.1 B3.out.size, fun k hk hne hr => (B3.out.block k (Nat.lt_of_lt_of_le hk HK'.out.1)).trans (HK'.out.2 k hk hne hr)⟩
    have I3 := Aside0.mk hI3
    have BB3 := Aside0.mk hB3
    have K3 := Aside0.mk hK3
    clear hI3 hB3 hK3 HI' HB' HK' B3 k0
    rw [show IntKind.i64.wrap ((s.size : Int) - (t.size : Int)) = (s.size : Int) - (t.size : Int) from IntWalk.i64_in _ (by omega)]
    go_upto_region 1 with (fail)
    have z1 := blk_frozen I3.out.1 1
    have k1 : W3.cell? ⟨g, 1, none⟩ = some (.int .i64 ln) := by rw [Lib.cell_of_heap I3.out.1]; rfl
    have hw2 : IntKind.i64.wrap (ln + c) = ln + c := IntWalk.i64_in _ (by omega)
    have HW := Lib.hid hw2
    clear hw2
    go_cut [27] (fun v27 wc => v27 = v27 ∧ ∃ nd, wc = (W3.drewN (1 + nd)).setCell ⟨g, 1, none⟩ (.int .i64 (ln + c)))
    case first =>
      go_region_with (first | (go_at_call 16; refine (strings_Count.calls _ _ c _ HCo.out).mono ?_; rintro e w' ⟨rfl, ⟨nd, rfl⟩⟩))
      all_goals (go_wp2_with fail; go_meet; exact ⟨trivial, nd, by rw [HW.out]⟩)
    case rest =>
    obtain ⟨-, nd, rfl⟩ := hcut
    have hI4 : IsS54 w0 ((W3.drewN (1 + nd)).setCell ⟨g, 1, none⟩ (.int .i64 (ln + c))) g s (ln + c) := (I3.out.drewN _).set_1 _
    have hB4 : Below w0.heap.size w0 ((W3.drewN (1 + nd)).setCell ⟨g, 1, none⟩ (.int .i64 (ln + c))) := below_set (pw_below_drewN BB3.out _) hg
    have hK4 : KeepBut w ((W3.drewN (1 + nd)).setCell ⟨g, 1, none⟩ (.int .i64 (ln + c))) g none := KeepBut.set_ (keep_drewN K3.out _) _ _
    clear I3 BB3 K3 z1 k1 k2 HW HCo HTr
    generalize (W3.drewN (1 + nd)).setCell ⟨g, 1, none⟩ (.int .i64 (ln + c)) = W4 at hI4 hB4 hK4 ⊢
    have I4 := Aside0.mk hI4
    have B4 := Aside0.mk hB4
    have K4 := Aside0.mk hK4
    clear hI4 hB4 hK4
    have k0 : W4.cell? ⟨g, 0, none⟩ = some (.string s) := by rw [Lib.cell_of_heap I4.out.1]; rfl
    have z0 := blk_frozen I4.out.1 0
    go_upto_region 3 with (fail)
    clear k0 z0
    have hI5 : IsS54 w0 (W4.setCell ⟨g, 0, none⟩ (.string (s.extract (s.size - t.size) s.size))) g (s.extract (s.size - t.size) s.size) (ln + c) := I4.out.set_0 _
    have hB5 : Below w0.heap.size w0 (W4.setCell ⟨g, 0, none⟩ (.string (s.extract (s.size - t.size) s.size))) := below_set B4.out hg
    have hK5 : KeepBut w (W4.setCell ⟨g, 0, none⟩ (.string (s.extract (s.size - t.size) s.size))) g none := KeepBut.set_ K4.out _ _
    generalize W4.setCell ⟨g, 0, none⟩ (.string (s.extract (s.size - t.size) s.size)) = W5 at hI5 hB5 hK5 ⊢
    have hP := HPr.out
    have hgo := HG.out
    have hq := HQ.out
    unfold lex_reader_skip.left at hP hgo hq
    clear HPr HG HQ I4 B4 K4
    generalize s.extract (s.size - t.size) s.size = s2 at hI5 hP hgo hq ⊢
    have HP := Lib.hid hP
    have HG := Lib.hid hgo
    have HQ := Lib.hid hq
    have I5 := Aside0.mk hI5
    have B5 := Aside0.mk hB5
    have K5 := Aside0.mk hK5
    clear hI5 hB5 hK5 hP hgo hq
    have k0 : W5.cell? ⟨g, 0, none⟩ = some (.string s2) := by rw [Lib.cell_of_heap I5.out.1]; rfl
    have z0 := blk_frozen I5.out.1 0
    by_cases hbf : b = false
    · subst hbf
      have hgo := HG.out
      rw [if_pos rfl] at hgo
      simp only [Option.some.injEq, Prod.mk.injEq] at hgo
      obtain ⟨rfl, rfl⟩ := hgo
      clear HG
      go_wp2_with (first | (refine (strings_HasPrefix.calls _ _ false _ HP.out).mono ?_; rintro e w' ⟨rfl, ⟨nd2, rfl⟩⟩))
      refine bodyPost_ret (v := .tuple #[]) (by simp [results, Tryd.results28, go_sem]) rfl ?_
      exact ⟨rfl, I5.out.drewN _, pw_below_drewN B5.out _, keep_drewN K5.out _⟩
    · obtain rfl : b = true := by simpa using hbf
      have hgo := HG.out
      rw [if_neg (by simp)] at hgo
      obtain ⟨e, he, hgo⟩ := Option.bind_eq_some_iff.mp hgo
      by_cases h1 : 1 ≤ s2.size
      case neg => rw [if_neg h1] at hgo; cases hgo
      rw [if_pos h1] at hgo
      have HE := Lib.hid he
      clear he hbf HG
      by_cases e0 : e < 0
      · rw [if_pos e0, show s2.extract s2.size s2.size = ByteArray.empty by simp] at hgo
        have HG := Lib.hid hgo
        clear hgo
        go_wp2_with (first | (refine (strings_HasPrefix.calls _ _ true _ HP.out).mono ?_; rintro e w' ⟨rfl, ⟨nd2, rfl⟩⟩) | (refine (strings_IndexByte.calls _ _ e _ HE.out).mono ?_; rintro e w' ⟨rfl, ⟨nd3, rfl⟩⟩))
        exact ⟨⟨_, _, k, HG, ⟨(I5.out.drewN _).set_0 _⟩, ⟨below_set (pw_below_drewN B5.out _) hg⟩, ⟨KeepBut.set_ (keep_drewN K5.out _) _ _⟩⟩, by rw [HL.out, lex_reader_skip.len_eq ((I5.out.drewN _).set_0 _)]; show 0 < s.size; have := HQ.out; omega⟩
      · rw [if_neg e0] at hgo
        by_cases e1 : 1 ≤ e ∧ e ≤ (s2.size : Int)
        case neg => rw [if_neg e1] at hgo; cases hgo
        rw [if_pos e1] at hgo
        obtain ⟨e2, e3⟩ := e1
        have e4 : 0 ≤ e := by omega
        have HG := Lib.hid hgo
        clear hgo
        go_wp2_with (first | (refine (strings_HasPrefix.calls _ _ true _ HP.out).mono ?_; rintro e w' ⟨rfl, ⟨nd2, rfl⟩⟩) | (refine (strings_IndexByte.calls _ _ e _ HE.out).mono ?_; rintro e w' ⟨rfl, ⟨nd3, rfl⟩⟩))
        exact ⟨⟨_, _, k, HG, ⟨(I5.out.drewN _).set_0 _⟩, ⟨below_set (pw_below_drewN B5.out _) hg⟩, ⟨KeepBut.set_ (keep_drewN K5.out _) _ _⟩⟩, by rw [HL.out, lex_reader_skip.len_eq ((I5.out.drewN _).set_0 _)]; have := HQ.out; rw [Str.size_L, Str.post_L, List.length_drop, ← Str.size_L]; omega⟩

end Go.Proofs.YtnghebedingjaaaDoor.Px
