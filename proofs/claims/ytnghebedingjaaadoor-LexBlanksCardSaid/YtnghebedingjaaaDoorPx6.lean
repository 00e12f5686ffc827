-- Laid by wip/hprint.py: the kit's print of the translation, turned in places, beside contracts that this session wrote by hand; Lean checks all of it.
import Derived.Test.YtnghebedingjaaaDoorPx0
import Derived.Test.YtnghebedingjaaaDoorPx1
import Derived.Test.YtnghebedingjaaaDoorPx2
import Derived.Test.YtnghebedingjaaaDoorPx5
namespace Go.Proofs.YtnghebedingjaaaDoor.Px
open Go.RowKit Go.Proofs.YtnghebedingjaaaDoorW.PrintWords Go.Proofs.YtnghebedingjaaaDoorW.PrintLast Go.Proofs.YtnghebedingjaaaDoorW.PrintMore
attribute [local go_sem] max2_int min2_int max_two min_two max_three min_three max_four min_four   -- for this text's walks alone
set_option linter.unusedVariables false
set_option linter.unusedSimpArgs false

/-! ### lex_reader_skip: function 28, by hand -/
def lex_reader_skip.len (g : Nat) (w : World) : Nat := match w.cell? ⟨g, 0, none⟩ with
  | some (.string t) => t.size
  | _ => 0
def lex_reader_skip.left (s t : ByteArray) : ByteArray := s.extract (s.size - t.size) s.size
def lex_reader_skip.go : Nat → ByteArray → Int → Option (ByteArray × Int)
  | 0, _, _ => none
  | k + 1, s, ln => (strings_TrimLeft.f s ⟨#[9, 10, 13, 32]⟩).bind fun t =>
    if t.size ≤ s.size ∧ s.size ≤ 1073741824 ∧ (lex_reader_skip.left s t).size ≤ s.size then (strings_Count.f (s.extract 0 (s.size - t.size)) ⟨#[10]⟩).bind fun c =>
    if 0 ≤ ln ∧ ln ≤ 1073741824 ∧ 0 ≤ c ∧ c ≤ 1073741824 then (strings_HasPrefix.f (lex_reader_skip.left s t) ⟨#[35]⟩).bind fun b =>
    if b = false then some (lex_reader_skip.left s t, ln + c)
    else (strings_IndexByte.f (lex_reader_skip.left s t) 10).bind fun e =>
      if 1 ≤ (lex_reader_skip.left s t).size then (if e < 0 then lex_reader_skip.go k ((lex_reader_skip.left s t).extract (lex_reader_skip.left s t).size (lex_reader_skip.left s t).size) (ln + c)
      else if 1 ≤ e ∧ e ≤ ((lex_reader_skip.left s t).size : Int) then lex_reader_skip.go k ((lex_reader_skip.left s t).extract e.toNat (lex_reader_skip.left s t).size) (ln + c) else none) else none
    else none
    else none
def lex_reader_skip.f (s0_0 : ByteArray) (s0_1 : Int) : Option (ByteArray × Int) := lex_reader_skip.go (s0_0.size + 1) s0_0 s0_1
theorem lex_reader_skip.len_eq {w0 w : World} {g : Nat} {s : ByteArray} {ln : Int} (h : IsS54 w0 w g s ln) : lex_reader_skip.len g w = s.size := by
  unfold lex_reader_skip.len
  rw [Lib.cell_of_heap h.1]
  rfl
set_option maxHeartbeats 4000000 in
set_option maxRecDepth 100000 in
theorem lex_reader_skip.calls (g : Nat) (s0_0 : ByteArray) (s0_1 : Int) (r1 : ByteArray) (r2 : Int) (w0 w : World) (hI : IsS54 w0 w g s0_0 s0_1) (hB : Below w0.heap.size w0 w) (h : lex_reader_skip.f s0_0 s0_1 = some (r1, r2)) :
    Calls Tryd.prog 28 #[.pointer (some ⟨g, 0, none⟩)] w fun e w' => e = .returned (.tuple #[]) ∧ IsS54 w0 w' g r1 r2 ∧ Below w0.heap.size w0 w' ∧ KeepBut w w' g none := by
  unfold lex_reader_skip.f at h
  have H0 := Lib.hid h
  have hg := hI.2
  have HI := Aside0.mk hI
  have HB := Aside0.mk hB
  clear hI hB h
  go_enter Tryd.func28, Tryd.ntmps28
  go_wp2_with fail
  go_loopw [2] (fun v2 wr => ∃ (s : ByteArray) (ln : Int) (k : Nat), Hid (lex_reader_skip.go k s ln = some (r1, r2)) ∧ Aside0 (IsS54 w0 wr g s ln) ∧ Aside0 (Below w0.heap.size w0 wr) ∧ Aside0 (KeepBut w wr g none)) (fun _ wr => lex_reader_skip.len g wr)
  case atStart => exact ⟨s0_0, s0_1, _, H0, HI, HB, ⟨KeepBut.refl _ _ _⟩⟩
  case round =>
    obtain ⟨s, ln, k, HG, HI', HB', HK'⟩ := hrel
    clear H0 HI HB
    have hgo := HG.out
    cases k with
    | zero => simp [lex_reader_skip.go] at hgo
    | succ k =>
    rw [lex_reader_skip.go] at hgo
    clear HG
    obtain ⟨t, ht, hgo⟩ := Option.bind_eq_some_iff.mp hgo
    by_cases q1 : t.size ≤ s.size ∧ s.size ≤ 1073741824 ∧ (lex_reader_skip.left s t).size ≤ s.size
    case neg => rw [if_neg q1] at hgo; cases hgo
    rw [if_pos q1] at hgo
    obtain ⟨c, hc, hgo⟩ := Option.bind_eq_some_iff.mp hgo
    by_cases q2 : 0 ≤ ln ∧ ln ≤ 1073741824 ∧ 0 ≤ c ∧ c ≤ 1073741824
    case neg => rw [if_neg q2] at hgo; cases hgo
    rw [if_pos q2] at hgo
    obtain ⟨b, hb, hgo⟩ := Option.bind_eq_some_iff.mp hgo
    obtain ⟨q10, q11, q12⟩ := q1
    obtain ⟨q20, q21, q22, q23⟩ := q2
    have HTr := Lib.hid ht
    have HCo := Lib.hid hc
    have HPr := Lib.hid hb
    have HG := Lib.hid hgo
    have HQ := Lib.hid q12
    clear ht hc hb hgo q12
    have k0 : wr.cell? ⟨g, 0, none⟩ = some (.string s) := by rw [Lib.cell_of_heap HI'.out.1]; rfl
    have p0 : (0 : Int) ≤ (s.size : Int) - (t.size : Int) := by omega
    have p1 : (s.size : Int) - (t.size : Int) ≤ (s.size : Int) := by omega
    have hlen : lex_reader_skip.len g wr = s.size := by unfold lex_reader_skip.len; rw [k0]
    have HL := Lib.hid hlen
    clear hlen
    go_upto_region 0 with (fail)
    go_region_held3 (fun w' => w'.cell? ⟨g, 0, none⟩ = some (.string s)) (first | exact k2 | exact k0) (first | (go_at_call 44; refine (strings_TrimLeft.calls s ⟨#[9, 10, 13, 32]⟩ t _ HTr.out).mono ?_; rintro e W3 ⟨rfl, hb3⟩; have k2 : W3.cell? ⟨g, 0, none⟩ = some (.string s) := (hb3.cell (p := ⟨g, 0, none⟩) (blk_lt HI'.out.1)).trans (by exact k0); have B3 := Aside0.mk hb3; clear hb3))
    have hI3 : IsS54 w0 W3 g s ln := ⟨(B3.out.block g (blk_lt HI'.out.1)).trans HI'.out.1, hg⟩
    have hB3 : Below w0.heap.size w0 W3 := (below_drew1 HB'.out).trans (B3.out.mono HB'.out.size)
    have hK3 : KeepBut w W3 g none := ⟨Nat.le_trans HK'.out.1 B3.out.size, fun k hk hne hr => (B3.out.block k (Nat.lt_of_lt_of_le hk HK'.out.1)).trans (HK'.out.2 k hk hne hr)⟩
    have I3 := Aside0.mk hI3
    have BB3 := Aside0.mk hB3
    have K3 := Aside0.mk hK3
    clear hI3 hB3 hK3 HI' HB' HK' B3 k0
    rw [show IntKind.i64.wrap ((s.size : Int) - (t.size : Int)) = (s.size : Int) - (t.size : Int) from IntWalk.i64_in _ (by omega)]
    go_upto_region 1 with (fail)
    have z1 := blk_frozen I3.out.1 1
    have k1 : W3.cell? ⟨g, 1, none⟩ = some (.int .i64 ln) := by rw [Lib.cell_of_heap I3.out.1]; rfl
    have hw2 : IntKind.i64.wrap (ln + c) = ln + c := IntWalk.i64_in _ (by omega)
    have HW := Lib.hid hw2
    clear hw2
    go_cut [27] (fun v27 wc => v27 = v27 ∧ ∃ nd, wc = (W3.drewN (1 + nd)).setCell ⟨g, 1, none⟩ (.int .i64 (ln + c)))
    case first =>
      go_region_with (first | (go_at_call 16; refine (strings_Count.calls _ _ c _ HCo.out).mono ?_; rintro e w' ⟨rfl, ⟨nd, rfl⟩⟩))
      all_goals (go_wp2_with fail; go_meet; exact ⟨trivial, nd, by rw [HW.out]⟩)
    case rest =>
    obtain ⟨-, nd, rfl⟩ := hcut
    have hI4 : IsS54 w0 ((W3.drewN (1 + nd)).setCell ⟨g, 1, none⟩ (.int .i64 (ln + c))) g s (ln + c) := (I3.out.drewN _).set_1 _
    have hB4 : Below w0.heap.size w0 ((W3.drewN (1 + nd)).setCell ⟨g, 1, none⟩ (.int .i64 (ln + c))) := below_set (pw_below_drewN BB3.out _) hg
    have hK4 : KeepBut w ((W3.drewN (1 + nd)).setCell ⟨g, 1, none⟩ (.int .i64 (ln + c))) g none := KeepBut.set_ (keep_drewN K3.out _) _ _
    clear I3 BB3 K3 z1 k1 k2 HW HCo HTr
    generalize (W3.drewN (1 + nd)).setCell ⟨g, 1, none⟩ (.int .i64 (ln + c)) = W4 at hI4 hB4 hK4 ⊢
    have I4 := Aside0.mk hI4
    have B4 := Aside0.mk hB4
    have K4 := Aside0.mk hK4
    clear hI4 hB4 hK4
    have k0 : W4.cell? ⟨g, 0, none⟩ = some (.string s) := by rw [Lib.cell_of_heap I4.out.1]; rfl
    have z0 := blk_frozen I4.out.1 0
    go_upto_region 3 with (fail)
    clear k0 z0
    have hI5 : IsS54 w0 (W4.setCell ⟨g, 0, none⟩ (.string (s.extract (s.size - t.size) s.size))) g (s.extract (s.size - t.size) s.size) (ln + c) := I4.out.set_0 _
    have hB5 : Below w0.heap.size w0 (W4.setCell ⟨g, 0, none⟩ (.string (s.extract (s.size - t.size) s.size))) := below_set B4.out hg
    have hK5 : KeepBut w (W4.setCell ⟨g, 0, none⟩ (.string (s.extract (s.size - t.size) s.size))) g none := KeepBut.set_ K4.out _ _
    generalize W4.setCell ⟨g, 0, none⟩ (.string (s.extract (s.size - t.size) s.size)) = W5 at hI5 hB5 hK5 ⊢
    have hP := HPr.out
    have hgo := HG.out
    have hq := HQ.out
    unfold lex_reader_skip.left at hP hgo hq
    clear HPr HG HQ I4 B4 K4
    generalize s.extract (s.size - t.size) s.size = s2 at hI5 hP hgo hq ⊢
    have HP := Lib.hid hP
    have HG := Lib.hid hgo
    have HQ := Lib.hid hq
    have I5 := Aside0.mk hI5
    have B5 := Aside0.mk hB5
    have K5 := Aside0.mk hK5
    clear hI5 hB5 hK5 hP hgo hq
    have k0 : W5.cell? ⟨g, 0, none⟩ = some (.string s2) := by rw [Lib.cell_of_heap I5.out.1]; rfl
    have z0 := blk_frozen I5.out.1 0
    by_cases hbf : b = false
    · subst hbf
      have hgo := HG.out
      rw [if_pos rfl] at hgo
      simp only [Option.some.injEq, Prod.mk.injEq] at hgo
      obtain ⟨rfl, rfl⟩ := hgo
      clear HG
      go_wp2_with (first | (refine (strings_HasPrefix.calls _ _ false _ HP.out).mono ?_; rintro e w' ⟨rfl, ⟨nd2, rfl⟩⟩))
      refine bodyPost_ret (v := .tuple #[]) (by simp [results, Tryd.results28, go_sem]) rfl ?_
      exact ⟨rfl, I5.out.drewN _, pw_below_drewN B5.out _, keep_drewN K5.out _⟩
    · obtain rfl : b = true := by simpa using hbf
      have hgo := HG.out
      rw [if_neg (by simp)] at hgo
      obtain ⟨e, he, hgo⟩ := Option.bind_eq_some_iff.mp hgo
      by_cases h1 : 1 ≤ s2.size
      case neg => rw [if_neg h1] at hgo; cases hgo
      rw [if_pos h1] at hgo
      have HE := Lib.hid he
      clear he hbf HG
      by_cases e0 : e < 0
      · rw [if_pos e0, show s2.extract s2.size s2.size = ByteArray.empty by simp] at hgo
        have HG := Lib.hid hgo
        clear hgo
        go_wp2_with (first | (refine (strings_HasPrefix.calls _ _ true _ HP.out).mono ?_; rintro e w' ⟨rfl, ⟨nd2, rfl⟩⟩) | (refine (strings_IndexByte.calls _ _ e _ HE.out).mono ?_; rintro e w' ⟨rfl, ⟨nd3, rfl⟩⟩))
        exact ⟨⟨_, _, k, HG, ⟨(I5.out.drewN _).set_0 _⟩, ⟨below_set (pw_below_drewN B5.out _) hg⟩, ⟨KeepBut.set_ (keep_drewN K5.out _) _ _⟩⟩, by rw [HL.out, lex_reader_skip.len_eq ((I5.out.drewN _).set_0 _)]; show 0 < s.size; have := HQ.out; omega⟩
      · rw [if_neg e0] at hgo
        by_cases e1 : 1 ≤ e ∧ e ≤ (s2.size : Int)
        case neg => rw [if_neg e1] at hgo; cases hgo
        rw [if_pos e1] at hgo
        obtain ⟨e2, e3⟩ := e1
        have e4 : 0 ≤ e := by omega
        have HG := Lib.hid hgo
        clear hgo
        go_wp2_with (first | (refine (strings_HasPrefix.calls _ _ true _ HP.out).mono ?_; rintro e w' ⟨rfl, ⟨nd2, rfl⟩⟩) | (refine (strings_IndexByte.calls _ _ e _ HE.out).mono ?_; rintro e w' ⟨rfl, ⟨nd3, rfl⟩⟩))
        exact ⟨⟨_, _, k, HG, ⟨(I5.out.drewN _).set_0 _⟩, ⟨below_set (pw_below_drewN B5.out _) hg⟩, ⟨KeepBut.set_ (keep_drewN K5.out _) _ _⟩⟩, by rw [HL.out, lex_reader_skip.len_eq ((I5.out.drewN _).set_0 _)]; have := HQ.out; rw [Str.size_L, Str.post_L, List.length_drop, ← Str.size_L]; omega⟩

/-! ### lex_Split: function 14, by hand -/
def lex_Split.go : Nat → ByteArray → Int → List S25 → Option (List S25 × Int × Int)
  | 0, _, _, _ => none
  | k + 1, s, ln, l => (lex_reader_skip.f s ln).bind fun x => if x.1.toList = ([] : List UInt8) then some (l, 0, 0) else
    (lex_reader_token.f x.1 x.2).bind fun t => if t.2.2.2.1 = false then some ([], t.2.2.2.2.2, 140) else if l.length = 4096 then some ([], t.2.2.2.2.2, 2) else
    if l.length < 4096 ∧ t.2.2.2.2.1.size < s.size then lex_Split.go k t.2.2.2.2.1 t.2.2.2.2.2 (l ++ [⟨t.1, t.2.1, t.2.2.1⟩]) else none
def lex_Split.f (a0 : ByteArray) : Option (List S25 × Int × Int) := if (a0.size : Int) > 65536 then some ([], 0, 2) else lex_Split.go (a0.size + 1) a0 1 []
theorem lex_Split.bound {n : Nat} {q : Prop} (h : n < 4096 ∧ q) : (n + 1) * 32 ≤ 140737488355328 := by omega
set_option maxHeartbeats 4000000 in
set_option maxRecDepth 100000 in
theorem lex_Split.calls (a0 : ByteArray) (r1 : List S25) (r2 r3 : Int) (w : World) (h : lex_Split.f a0 = some (r1, r2, r3)) :
    Calls Tryd.prog 14 #[.string a0] w fun e w' => ∃ v0_ : Value, e = .returned (.tuple #[v0_, .int .i64 r2, .int .i64 r3]) ∧ Kd.R k25 25 w' w.heap.size (fun _ => True) v0_ r1 ∧ Below w.heap.size w w' := by
  unfold lex_Split.f at h
  by_cases hl : (a0.size : Int) > 65536
  · rw [if_pos hl] at h
    simp only [Option.some.injEq, Prod.mk.injEq] at h
    obtain ⟨rfl, rfl, rfl⟩ := h
    have c0 : decide ((a0.size : Int) > 65536) = true := decide_eq_true hl
    have c1 : decide (65536 < a0.size) = true := decide_eq_true (by omega)
    go_enter Tryd.func14, Tryd.ntmps14
    go_wp2_with fail
    go_ret3
    exact ⟨_, rfl, Kd.R_nil _ _ _ _ _, Below.refl _ _⟩
  · rw [if_neg hl] at h
    have c0 : decide ((a0.size : Int) > 65536) = false := decide_eq_false hl
    have c1 : decide (65536 < a0.size) = false := decide_eq_false (by omega)
    have H0 := Lib.hid h
    clear h hl
    have HI0 := Aside0.mk (IsS54.new w w a0 1 (Below.refl _ _))
    have HB0 := Aside0.mk ((Below.refl w.heap.size w).alloc (Nat.le_refl _) (.cells #[.string a0, .int .i64 1] 54))
    go_enter Tryd.func14, Tryd.ntmps14
    go_wp2_with fail
    go_loopw [2] (fun v2 wr => ∃ (s : ByteArray) (ln : Int) (l : List S25) (k : Nat), Hid (lex_Split.go k s ln l = some (r1, r2, r3)) ∧ Aside0 (Kd.R k25 25 wr w.heap.size (fun k => k ≠ w.heap.size) v2 l) ∧ Aside0 (IsS54 w wr w.heap.size s ln) ∧ Aside0 (Below w.heap.size w wr)) (fun _ wr => lex_reader_skip.len w.heap.size wr)
    case atStart => exact ⟨a0, 1, [], _, H0, ⟨Kd.R_nil _ _ _ _ _⟩, HI0, HB0⟩
    case round =>
      obtain ⟨s, ln, l, k, HG, HR, HI, HB⟩ := hrel
      clear H0 HI0 HB0
      have hgo := HG.out
      cases k with
      | zero => simp [lex_Split.go] at hgo
      | succ k =>
      rw [lex_Split.go] at hgo
      clear HG
      obtain ⟨⟨x1, x2⟩, hx, hgo⟩ := Option.bind_eq_some_iff.mp hgo
      simp only at hgo
      have HX := Lib.hid hx
      have HG := Lib.hid hgo
      have HL := Lib.hid (lex_reader_skip.len_eq HI.out)
      clear hx hgo
      obtain ⟨A2, c2, hv2⟩ := Kd.R_slice HR.out
      subst hv2
      clear c0 c1
      go_upto_region 5 with (first | (go_at_call 28; refine (lex_reader_skip.calls w.heap.size s ln x1 x2 w _ HI.out HB.out HX.out).mono ?_; rintro e W2 ⟨rfl, hi2, hb2, hk2⟩; have R2 := Aside0.mk (Kd.R_keep HR.out hk2 (fun _ h => h)); have I2 := Aside0.mk hi2; have B2 := Aside0.mk hb2; clear hi2 hb2 hk2))
      clear HR HI HB
      have k0 : W2.cell? ⟨w.heap.size, 0, none⟩ = some (.string x1) := by rw [Lib.cell_of_heap I2.out.1]; rfl
      have hgo := HG.out
      clear HG
      by_cases cx : x1.toList = ([] : List UInt8)
      · rw [if_pos cx] at hgo
        simp only [Option.some.injEq, Prod.mk.injEq] at hgo
        obtain ⟨rfl, rfl, rfl⟩ := hgo
        have cb : (x1.toList == ([] : List UInt8)) = true := beq_iff_eq.mpr cx
        clear cx
        go_wp2_with fail
        go_ret3
        exact ⟨_, rfl, Kd.R_mono R2.out (fun _ _ => trivial), B2.out⟩
      · rw [if_neg cx] at hgo
        have cb : (x1.toList == ([] : List UInt8)) = false := beq_eq_false_iff_ne.mpr cx
        clear cx
        obtain ⟨⟨t1, t2, t3, t4, t5, t6⟩, ht, hgo⟩ := Option.bind_eq_some_iff.mp hgo
        simp only at hgo
        have HT := Lib.hid ht
        have HG := Lib.hid hgo
        clear ht hgo
        go_upto_block 2 with (first | (go_at_call 22; refine (lex_reader_token.calls w.heap.size x1 x2 t1 t2 t3 t4 t5 t6 w _ I2.out B2.out HT.out).mono ?_; rintro e W3 ⟨rfl, hi3, hb3, hk3⟩; have R3 := Aside0.mk (Kd.R_keep R2.out hk3 (fun _ h => h)); have I3 := Aside0.mk hi3; have B3 := Aside0.mk hb3; clear hi3 hb3 hk3))
        have k1 : W3.cell? ⟨w.heap.size, 1, none⟩ = some (.int .i64 t6) := by rw [Lib.cell_of_heap I3.out.1]; rfl
        have k2 : (W3.alloc (.cells #[.int .i64 t1, .string t2, .int .i64 t3] 25)).cell? ⟨w.heap.size, 1, none⟩ = some (.int .i64 t6) := by rw [Lib.cell_of_heap (I3.out.alloc (.cells #[.int .i64 t1, .string t2, .int .i64 t3] 25)).1]; rfl
        have hgo := HG.out
        clear HG k0
        by_cases h4 : t4 = false
        · rw [if_pos h4] at hgo
          simp only [Option.some.injEq, Prod.mk.injEq] at hgo
          obtain ⟨rfl, rfl, rfl⟩ := hgo
          subst h4
          go_upto_region 9 with (fail)
          go_region
          go_wp2_with fail
          go_ret3
          exact ⟨_, rfl, Kd.R_nil _ _ _ _ _, by with_reducible repeat (first | exact B3.out | apply pw_below_drewN | apply below_drew1 | apply below_alloc)⟩
        · obtain rfl : t4 = true := by simpa using h4
          rw [if_neg (by simp)] at hgo
          clear h4
          by_cases h5 : l.length = 4096
          · rw [if_pos h5] at hgo
            simp only [Option.some.injEq, Prod.mk.injEq] at hgo
            obtain ⟨rfl, rfl, rfl⟩ := hgo
            have c5 : ((l.length : Int) == 4096) = true := beq_iff_eq.mpr (by omega)
            clear h5
            go_upto_region 11 with (fail)
            go_region
            go_wp2_with fail
            go_ret3
            exact ⟨_, rfl, Kd.R_nil _ _ _ _ _, by with_reducible repeat (first | exact B3.out | apply pw_below_drewN | apply below_drew1 | apply below_alloc)⟩
          · rw [if_neg h5] at hgo
            by_cases h6 : l.length < 4096 ∧ t5.size < s.size
            case neg => rw [if_neg h6] at hgo; cases hgo
            rw [if_pos h6] at hgo
            have c5 : ((l.length : Int) == 4096) = false := beq_eq_false_iff_ne.mpr (by omega)
            have HG := Lib.hid hgo
            have HS := Lib.hid h6
            clear hgo h5 h6
            go_upto_region 12 with (fail)
            have hbx := heap_alloc_new W3 (Obj.cells #[.int .i64 t1, .string t2, .int .i64 t3] 25)
            have b0 := Lib.cell_of_heap hbx 0
            have b1 := Lib.cell_of_heap hbx 1
            have b2 := Lib.cell_of_heap hbx 2
            have i25 : (Tryd.prog.info? 25).map (fun i => (i.zero, i.size, i.bytes)) = some (some (.agg #[(.int .i64 0), (.string ⟨#[]⟩), (.int .i64 0)]), 3, 32) := by kernel_rfl
            have hlt3 := blk_lt I3.out.1
            have R4 := Aside0.mk (Kd.R_alloc R3.out (Obj.cells #[.int .i64 t1, .string t2, .int .i64 t3] 25))
            have I4 := Aside0.mk (I3.out.alloc (Obj.cells #[.int .i64 t1, .string t2, .int .i64 t3] 25))
            have B4 := Aside0.mk (below_alloc B3.out (Obj.cells #[.int .i64 t1, .string t2, .int .i64 t3] 25))
            have hsz4 : w.heap.size < (W3.alloc (Obj.cells #[.int .i64 t1, .string t2, .int .i64 t3] 25)).heap.size := by simp; omega
            go_wp2_with (first | ((with_reducible refine gate_builtin (b := .append) (xs := #[.tmp 42, .tmp 44]) rfl ?_); at_builtin; refine Kd.R_append k25 (w0 := w) w.heap.size rfl (.tmp 42) (.tmp 44) 22 25 (.agg #[(.int .i64 0), (.string ⟨#[]⟩), (.int .i64 0)]) 32 rfl Tryd.underlying22 i25 rfl (by decide) (by omega) (.slice A2 l.length c2) l (⟨t1, t2, t3⟩ : S25) [.int .i64 t1, .string t2, .int .i64 t3] (fun k_ => k_ ≠ w.heap.size) (fun _ => False) rfl (by first | (go_simp; done) | (go_simp; rfl)) ?aP (fun _ hk => hk.elim) ?aF ?aO ?aB ?aS ?aL ?_; (case aP => exact k25_mkM _ _ _ (⟨t1, t2, t3⟩ : S25)); (case aF => exact fun k_ hk => Nat.ne_of_gt (Nat.lt_of_lt_of_le hsz4 hk)); (case aO => exact R4.out); (case aB => exact B4.out); (case aS => exact Nat.le_of_lt hsz4); (case aL => exact lex_Split.bound HS.out); intro v1 w5 ho hb hg hat))
            have hI5 : IsS54 w w5 w.heap.size t5 t6 := ⟨(hg.block _ hsz4 (Kd.R_away R4.out (fun _ h => h))).trans I4.out.1, Nat.le_refl _⟩
            exact ⟨⟨t5, t6, _, k, HG, ⟨ho⟩, ⟨hI5⟩, ⟨hb⟩⟩, by rw [HL.out, lex_reader_skip.len_eq hI5]; exact HS.out.2⟩

end Go.Proofs.YtnghebedingjaaaDoor.Px
