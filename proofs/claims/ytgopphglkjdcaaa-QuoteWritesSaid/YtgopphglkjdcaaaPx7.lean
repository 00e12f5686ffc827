-- Laid by wip/hprint.py: the kit's print of the translation, turned in places, beside contracts that this session wrote by hand; Lean checks all of it.
import Derived.Test.YtgopphglkjdcaaaPx0
import Derived.Test.YtgopphglkjdcaaaPx6
namespace Go.Proofs.Ytgopphglkjdcaaa.Px
open Go.RowKit Go.Proofs.YtgopphglkjdcaaaW.PrintWords Go.Proofs.YtgopphglkjdcaaaW.PrintLast Go.Proofs.YtgopphglkjdcaaaW.PrintMore
attribute [local go_sem] max2_int min2_int max_two min_two max_three min_three max_four min_four   -- for this text's walks alone
set_option linter.unusedVariables false
set_option linter.unusedSimpArgs false

-- NOT PRINTED: function 36 (strings_Builder_String)

/-! ### quote_scanner_value: function 56, by hand -/
def quote_scanner_value.sp (x : Int) : Bool := decide (x = 34 ∨ x = 93 ∨ x = 92)
theorem quote_scanner_value.spec (x : Int) : quote_special.f x = some (quote_scanner_value.sp x) := by
  unfold quote_special.f quote_scanner_value.sp
  by_cases h1 : x = 34
  · rw [if_pos h1, decide_eq_true (.inl h1)]
  rw [if_neg h1]
  by_cases h2 : x = 93
  · rw [if_pos h2, decide_eq_true (.inr (.inl h2))]
  rw [if_neg h2]
  by_cases h3 : x = 92
  · rw [if_pos h3, decide_eq_true (.inr (.inr h3))]
  rw [if_neg h3, decide_eq_false (fun z => by rcases z with z | z | z; exact h1 z; exact h2 z; exact h3 z)]
def quote_scanner_value.go (s : ByteArray) : Nat → Nat → List UInt8 → Option (Option (List UInt8 × Nat))
  | 0, _, _ => none
  | k + 1, i, acc => if i < s.size then (if bt s (i : Int) = 34 then some (some (acc, i)) else if bt s (i : Int) = 93 then some none
      else if bt s (i : Int) = 92 then (if i + 1 < s.size then (if quote_scanner_value.sp (bt s ((i + 1 : Nat) : Int)) = true then quote_scanner_value.go s k (i + 2) (acc ++ [UInt8.ofNat (bt s ((i + 1 : Nat) : Int)).toNat]) else quote_scanner_value.go s k (i + 1) (acc ++ [UInt8.ofNat (bt s (i : Int)).toNat])) else quote_scanner_value.go s k (i + 1) (acc ++ [UInt8.ofNat (bt s (i : Int)).toNat]))
      else quote_scanner_value.go s k (i + 1) (acc ++ [UInt8.ofNat (bt s (i : Int)).toNat])) else some none
def quote_scanner_value.f (s0_0 : ByteArray) (s0_1 : Bool) : Option (ByteArray × ByteArray × Bool) :=
  if s0_0.size ≤ 1073741824 then (quote_scanner_value.go s0_0 (s0_0.size + 1) 0 []).bind fun x => match x with
    | some (acc, i) => some (⟨acc.toArray⟩, s0_0.extract i s0_0.size, s0_1)
    | none => some (⟨#[]⟩, s0_0, true)
  else none
theorem quote_scanner_value.at_far {B b : Nat} {p : Value} {bs : List Value} {w : World} (h : Lib.BuilderAt Bld.T 5 B b p bs w) {q : Addr} (hq : q.block < B) (u : Value) : Lib.BuilderAt Bld.T 5 B b p bs (w.setCell q u) := by
  obtain ⟨hB, v, hb, ho, hn⟩ := h
  refine ⟨hB, v, blk_far hb (by omega) _, ho.kept (row := some q.block) ⟨rfl, rfl, rfl, by simp [World.setCell], fun k _ hk => Below.heap_setCell _ _ _ _ (fun e => hk (by rw [e]))⟩ ?_, hn⟩
  cases hv : v.ownBlock with
  | none => exact .inl rfl
  | some g =>
    refine .inr ?_
    intro e
    simp only [Option.some.injEq] at e
    rw [e] at hv
    rcases ho.2 with ⟨rfl, _⟩ | ⟨g', cap, cur, rfl, hbg, _⟩
    · simp [Value.ownBlock] at hv
    · simp [Value.ownBlock] at hv
      omega
theorem quote_scanner_value.bfar {B b : Nat} {bs : List Value} {w : World} (h : Lib.IsBuilder Bld.T 5 B b bs w) {p : Addr} (hp : p.block < B) (u : Value) : Lib.IsBuilder Bld.T 5 B b bs (w.setCell p u) :=
  h.elim (fun x => .inl (quote_scanner_value.at_far x hp u)) (fun x => .inr (quote_scanner_value.at_far x hp u))
theorem quote_scanner_value.btx (s : ByteArray) (i : Nat) (h : i < s.size) : (((s[i]'h).toNat : Nat) : Int) = bt s (i : Int) := by
  unfold bt
  rw [dif_pos (by simpa using h)]
  simp
set_option maxHeartbeats 4000000 in
set_option maxRecDepth 100000 in
theorem quote_scanner_value.calls (g : Nat) (s0_0 : ByteArray) (s0_1 : Bool) (r1 : ByteArray) (r2 : ByteArray) (r3 : Bool) (w0 w : World) (hI : IsS51 w0 w g s0_0 s0_1) (hB : Below w0.heap.size w0 w) (h : quote_scanner_value.f s0_0 s0_1 = some (r1, r2, r3)) :
    Calls Try.prog 56 #[.pointer (some ⟨g, 0, none⟩)] w fun e w' => e = .returned (.string r1) ∧ IsS51 w0 w' g r2 r3 ∧ Below w0.heap.size w0 w' ∧ KeepBut w w' g none := by
  unfold quote_scanner_value.f at h
  by_cases hs : s0_0.size ≤ 1073741824
  case neg => rw [if_neg hs] at h; cases h
  rw [if_pos hs] at h
  obtain ⟨x, hc, h⟩ := Option.bind_eq_some_iff.mp h
  have HC := Lib.hid hc
  have HH := Lib.hid h
  clear hc h
  have hg := hI.2
  have hlt := hI.lt
  have HI := Aside0.mk hI
  have HB := Aside0.mk hB
  clear hI hB
  have hF : Lib.IsBuilder Bld.T 5 w.heap.size w.heap.size (Lib.byteCells []) (w.alloc (.cells #[.pointer none, .slice none 0 0] 59)) := Lib.fresh_isBuilder Bld.T 5 w
  have hbb := (Below.refl w.heap.size w).alloc (Nat.le_refl _) (.cells #[.pointer none, .slice none 0 0] 59)
  have HF := Aside0.mk hF
  have HBB := Aside0.mk hbb
  clear hF hbb
  go_enter Try.func56, Try.ntmps56
  go_wp2_with fail
  go_loopw [4] (fun v wr => ∃ (i : Nat) (acc : List UInt8) (k : Nat), v = .int .i64 i ∧ i ≤ s0_0.size ∧ acc.length ≤ i ∧ Hid (quote_scanner_value.go s0_0 k i acc = some x) ∧ Aside0 (Lib.IsBuilder Bld.T 5 w.heap.size w.heap.size (Lib.byteCells acc) wr) ∧ Aside0 (Below w.heap.size w wr)) (fun v _ => match v with | .int _ n => s0_0.size - n.toNat | _ => 0)
  case atStart => exact ⟨0, [], _, rfl, Nat.zero_le _, Nat.zero_le _, HC, HF, HBB⟩
  case round =>
    obtain ⟨i, acc, k, rfl, hi, hacc, HG, HIb, HBr⟩ := hrel
    clear HF HBB HC
    have hgo := HG.out
    cases k with
    | zero => simp [quote_scanner_value.go] at hgo
    | succ k =>
    rw [quote_scanner_value.go] at hgo
    clear HG
    have hG := (HBr.out.block g hlt).trans HI.out.1
    have k0 : wr.cell? ⟨g, 0, none⟩ = some (.string s0_0) := by rw [Lib.cell_of_heap hG]; rfl
    have k1 : wr.cell? ⟨g, 1, none⟩ = some (.bool s0_1) := by rw [Lib.cell_of_heap hG]; rfl
    have zg0 := blk_frozen hG 0
    have zg1 := blk_frozen hG 1
    have hw0 : w0.heap.size ≤ w.heap.size := HB.out.size
    have hw : w.heap.size ≤ wr.heap.size := HBr.out.size
    have bw := Aside0.mk (HB.out.trans (HBr.out.mono hw0))
    have kw := Aside0.mk (show KeepBut w wr g none from ⟨hw, fun k hk _ _ => HBr.out.block k hk⟩)
    have IG := Aside0.mk (show IsS51 w0 wr g s0_0 s0_1 from ⟨hG, hg⟩)
    clear hG
    by_cases hl : i < s0_0.size
    case neg =>
      rw [if_neg hl] at hgo
      injection hgo with hgo
      subst hgo
      have HN := HH.out
      simp only [Option.some.injEq, Prod.mk.injEq] at HN
      obtain ⟨rfl, rfl, rfl⟩ := HN
      obtain rfl : i = s0_0.size := by omega
      go_wp2_with fail
      go_ret
      exact ⟨rfl, IG.out.set_1 true, below_set bw.out hg, KeepBut.set_ kw.out _ _⟩
    · rw [if_pos hl] at hgo
      have hli : (i : Int) < (s0_0.size : Int) := by omega
      have hx := quote_scanner_value.btx s0_0 i hl
      have hrng := Str.bt_range s0_0 (i : Int)
      by_cases c34 : bt s0_0 (i : Int) = 34
      · rw [if_pos c34] at hgo
        injection hgo with hgo
        subst hgo
        have HN := HH.out
        simp only [Option.some.injEq, Prod.mk.injEq] at HN
        obtain ⟨rfl, rfl, rfl⟩ := HN
        have e34 : (bt s0_0 (i : Int) == 34) = true := beq_iff_eq.mpr c34
        clear c34
        go_upto_region 8 with (fail)
        have hib := quote_scanner_value.bfar (p := ⟨g, 0, none⟩) HIb.out hlt (.string (s0_0.extract i s0_0.size))
        have hI2 := IG.out.set_0 (s0_0.extract i s0_0.size)
        have hb2 : Below w0.heap.size w0 (wr.setCell ⟨g, 0, none⟩ (.string (s0_0.extract i s0_0.size))) := below_set bw.out hg
        have hk2 : KeepBut w (wr.setCell ⟨g, 0, none⟩ (.string (s0_0.extract i s0_0.size))) g none := KeepBut.set_ kw.out _ _
        have hw2 : w.heap.size ≤ (wr.setCell ⟨g, 0, none⟩ (.string (s0_0.extract i s0_0.size))).heap.size := by simpa [World.setCell] using hw
        clear k0 k1 zg0 zg1 bw kw IG HIb HBr
        generalize wr.setCell ⟨g, 0, none⟩ (.string (s0_0.extract i s0_0.size)) = W2 at hib hI2 hb2 hk2 hw2 ⊢
        have IB := Aside0.mk hib
        have I2 := Aside0.mk hI2
        have B2 := Aside0.mk hb2
        have K2 := Aside0.mk hk2
        clear hib hI2 hb2 hk2
        go_wp2_with fail
        refine (Try.Builder_String_any w.heap.size w.heap.size acc _ IB.out hw2).mono ?_
        rintro e W3 ⟨rfl, hb3⟩
        have e2 : IsS51 w0 W3 g (s0_0.extract i s0_0.size) s0_1 := ⟨(hb3.block g hlt).trans I2.out.1, hg⟩
        have e3 : Below w0.heap.size w0 W3 := B2.out.trans (hb3.mono hw0)
        have e4 : KeepBut w W3 g none := ⟨Nat.le_trans K2.out.1 hb3.size, fun k hk hn hr => (hb3.block k hk).trans (K2.out.2 k hk hn hr)⟩
        go_wp2_with fail
        go_ret
        exact ⟨rfl, e2, e3, e4⟩
      rw [if_neg c34] at hgo
      have e34 : (bt s0_0 (i : Int) == 34) = false := beq_eq_false_iff_ne.mpr c34
      clear c34
      by_cases c93 : bt s0_0 (i : Int) = 93
      · rw [if_pos c93] at hgo
        injection hgo with hgo
        subst hgo
        have HN := HH.out
        simp only [Option.some.injEq, Prod.mk.injEq] at HN
        obtain ⟨rfl, rfl, rfl⟩ := HN
        have e93 : (bt s0_0 (i : Int) == 93) = true := beq_iff_eq.mpr c93
        clear c93
        go_wp2_with fail
        go_ret
        exact ⟨rfl, IG.out.set_1 true, below_set bw.out hg, KeepBut.set_ kw.out _ _⟩
      rw [if_neg c93] at hgo
      have e93 : (bt s0_0 (i : Int) == 93) = false := beq_eq_false_iff_ne.mpr c93
      clear c93
      have hu8 : ((UInt8.ofNat (bt s0_0 (i : Int)).toNat).toNat : Int) = bt s0_0 (i : Int) := by rw [UInt8.toNat_ofNat']; omega
      have HU8 := Lib.hid hu8
      clear hu8
      have FIN := Lib.hid (show ∀ (Y : UInt8) (v : Int) (W : World), ((Y.toNat : Nat) : Int) = v → Lib.IsBuilder Bld.T 5 w.heap.size w.heap.size (Lib.byteCells acc ++ [.int .u8 v]) W → Lib.IsBuilder Bld.T 5 w.heap.size w.heap.size (Lib.byteCells (acc ++ [Y])) W from fun Y v W e h => by rw [Lib.byteCells_append]; subst e; exact h)
      by_cases c92 : bt s0_0 (i : Int) = 92
      case neg =>
        rw [if_neg c92] at hgo
        have e92 : (bt s0_0 (i : Int) == 92) = false := beq_eq_false_iff_ne.mpr c92
        have HG := Lib.hid hgo
        clear c92 hgo
        go_wp2_with fail
        refine (Bld.writeByte2 w.heap.size w.heap.size (Lib.byteCells acc) (bt s0_0 (i : Int)) _ HIb.out (by rw [Lib.byteCells_length]; omega) hw).mono ?_
        rintro e w' ⟨rfl, hi2, hb2, _⟩
        go_wp2_with fail
        exact ⟨⟨i + 1, _, k, by push_cast; rfl, hl, by rw [List.length_append, List.length_singleton]; omega, HG, ⟨FIN.out _ _ _ HU8.out hi2⟩, ⟨HBr.out.trans hb2⟩⟩, by show s0_0.size - (((i : Int) + 1)).toNat < s0_0.size - ((i : Int)).toNat; omega⟩
      rw [if_pos c92] at hgo
      have e92 : (bt s0_0 (i : Int) == 92) = true := beq_iff_eq.mpr c92
      by_cases hl1 : i + 1 < s0_0.size
      case neg =>
        rw [if_neg hl1] at hgo
        have el : ¬ ((i : Int) + 1 < (s0_0.size : Int)) := by omega
        have HG := Lib.hid hgo
        clear c92 hgo hl1
        go_wp2_with fail
        refine (Bld.writeByte2 w.heap.size w.heap.size (Lib.byteCells acc) (bt s0_0 (i : Int)) _ HIb.out (by rw [Lib.byteCells_length]; omega) hw).mono ?_
        rintro e w' ⟨rfl, hi2, hb2, _⟩
        go_wp2_with fail
        exact ⟨⟨i + 1, _, k, by push_cast; rfl, hl, by rw [List.length_append, List.length_singleton]; omega, HG, ⟨FIN.out _ _ _ HU8.out hi2⟩, ⟨HBr.out.trans hb2⟩⟩, by show s0_0.size - (((i : Int) + 1)).toNat < s0_0.size - ((i : Int)).toNat; omega⟩
      rw [if_pos hl1] at hgo
      have el : (i : Int) + 1 < (s0_0.size : Int) := by omega
      have hx1 := quote_scanner_value.btx s0_0 (i + 1) hl1
      rw [show (((i + 1 : Nat)) : Int) = (i : Int) + 1 by omega] at hx1 hgo
      have hrng1 := Str.bt_range s0_0 ((i : Int) + 1)
      cases hsp : quote_scanner_value.sp (bt s0_0 ((i : Int) + 1)) with
      | false =>
        rw [hsp, if_neg (by decide)] at hgo
        have HSP := Lib.hid (show quote_special.f (bt s0_0 ((i : Int) + 1)) = some false by rw [quote_scanner_value.spec, hsp])
        have HG := Lib.hid hgo
        clear c92 hgo hsp
        go_wp2_with (first | (go_at_call 34; refine (quote_special.calls (bt s0_0 ((i : Int) + 1)) false _ HSP.out).mono ?_; rintro e w' ⟨rfl, ⟨nd, rfl⟩⟩))
        refine (Bld.writeByte2 w.heap.size w.heap.size (Lib.byteCells acc) (bt s0_0 (i : Int)) _ (Bld.drewN HIb.out nd) (by rw [Lib.byteCells_length]; omega) hw).mono ?_
        rintro e w' ⟨rfl, hi2, hb2, _⟩
        go_wp2_with fail
        exact ⟨⟨i + 1, _, k, by push_cast; rfl, hl, by rw [List.length_append, List.length_singleton]; omega, HG, ⟨FIN.out _ _ _ HU8.out hi2⟩, ⟨(pw_below_drewN HBr.out nd).trans hb2⟩⟩, by show s0_0.size - (((i : Int) + 1)).toNat < s0_0.size - ((i : Int)).toNat; omega⟩
      | true =>
        rw [hsp, if_pos rfl] at hgo
        have HSP := Lib.hid (show quote_special.f (bt s0_0 ((i : Int) + 1)) = some true by rw [quote_scanner_value.spec, hsp])
        have HG := Lib.hid hgo
        clear c92 hgo hsp
        go_wp2_with (first | (go_at_call 34; refine (quote_special.calls (bt s0_0 ((i : Int) + 1)) true _ HSP.out).mono ?_; rintro e w' ⟨rfl, ⟨nd, rfl⟩⟩))
        have hu9 : ((UInt8.ofNat (bt s0_0 ((i : Int) + 1)).toNat).toNat : Int) = bt s0_0 ((i : Int) + 1) := by rw [UInt8.toNat_ofNat']; omega
        have HU9 := Lib.hid hu9
        clear hu9
        refine (Bld.writeByte2 w.heap.size w.heap.size (Lib.byteCells acc) (bt s0_0 ((i : Int) + 1)) _ (Bld.drewN HIb.out nd) (by rw [Lib.byteCells_length]; omega) hw).mono ?_
        rintro e w' ⟨rfl, hi2, hb2, _⟩
        go_wp2_with fail
        exact ⟨⟨i + 2, _, k, by first | (push_cast; rfl) | (congr 1; omega), by omega, by rw [List.length_append, List.length_singleton]; omega, HG, ⟨FIN.out _ _ _ HU9.out hi2⟩, ⟨(pw_below_drewN HBr.out nd).trans hb2⟩⟩, by show s0_0.size - (((i : Int) + 1 + 1)).toNat < s0_0.size - ((i : Int)).toNat; omega⟩

end Go.Proofs.Ytgopphglkjdcaaa.Px
