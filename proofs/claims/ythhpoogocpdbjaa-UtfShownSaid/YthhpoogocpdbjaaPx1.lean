-- Laid by wip/hprint.py: the kit's print of the translation, turned in places, beside contracts that this session wrote by hand; Lean checks all of it.
import Derived.Test.YthhpoogocpdbjaaPx0
namespace Go.Proofs.Ythhpoogocpdbjaa.Px
open Go.RowKit Go.Proofs.YthhpoogocpdbjaaW.PrintWords Go.Proofs.YthhpoogocpdbjaaW.PrintLast Go.Proofs.YthhpoogocpdbjaaW.PrintMore
attribute [local go_sem] max2_int min2_int max_two min_two max_three min_three max_four min_four   -- for this text's walks alone
set_option linter.unusedVariables false
set_option linter.unusedSimpArgs false

/-! ### utf_is: function 29 -/
def utf_is.f (a0 : Int) : Option (Bool) := if a0 ≥ 0 then (if a0 ≤ 1114111 then (if a0 < 55296 then (some true) else (some (decide (a0 > 57343)))) else (some false)) else (some false)
set_option maxHeartbeats 8000000 in
set_option maxRecDepth 100000 in
theorem utf_is.calls (a0 : Int) (r : Bool) (w : World) (h : utf_is.f a0 = some r) :
    Calls Try.prog 29 #[.int .i64 a0] w fun e w' => e = .returned (.bool r) ∧ Drawn0 w w' := by
  have H : (if a0 ≥ 0 then (if a0 ≤ 1114111 then (if a0 < 55296 then (some true) else (some (decide (a0 > 57343)))) else (some false)) else (some false)) = some r := h
  clear h
  by_cases c2 : a0 ≥ 0
  · rw [if_pos c2] at H
    have c2b0 : decide (0 ≤ a0) = true := decide_eq_true c2
    clear c2
    by_cases c3 : a0 ≤ 1114111
    · rw [if_pos c3] at H
      have c3b0 : decide (a0 ≤ 1114111) = true := decide_eq_true c3
      clear c3
      by_cases c4 : a0 < 55296
      · rw [if_pos c4] at H
        have c4b0 : decide (a0 < 55296) = true := decide_eq_true c4
        clear c4
        obtain rfl := Option.some.inj H
        go_enter Try.func29, Try.ntmps29
        go_wp2
        go_ret
        exact ⟨by first | rfl | (simp; done) | (simp [*]; done), by repeat (first | exact Drawn0.refl _ | apply Drawn0.step)⟩
      · rw [if_neg c4] at H
        have c4b0 : decide (a0 < 55296) = false := decide_eq_false c4
        clear c4
        obtain rfl := Option.some.inj H
        go_enter Try.func29, Try.ntmps29
        go_wp2
        go_ret
        exact ⟨by first | rfl | (simp; done) | (simp [*]; done), by repeat (first | exact Drawn0.refl _ | apply Drawn0.step)⟩
    · rw [if_neg c3] at H
      have c3b0 : decide (a0 ≤ 1114111) = false := decide_eq_false c3
      clear c3
      obtain rfl := Option.some.inj H
      go_enter Try.func29, Try.ntmps29
      go_wp2
      go_ret
      exact ⟨by first | rfl | (simp; done) | (simp [*]; done), by repeat (first | exact Drawn0.refl _ | apply Drawn0.step)⟩
  · rw [if_neg c2] at H
    have c2b0 : decide (0 ≤ a0) = false := decide_eq_false c2
    clear c2
    obtain rfl := Option.some.inj H
    go_enter Try.func29, Try.ntmps29
    go_wp2
    go_ret
    exact ⟨by first | rfl | (simp; done) | (simp [*]; done), by repeat (first | exact Drawn0.refl _ | apply Drawn0.step)⟩

/-! ### utf_Bytes: function 9, by hand -/
def utf_Bytes.cont (c : Int) : Int := bits BinOp.or IntKind.i64 128 (bits BinOp.and IntKind.i64 c 63) % 256
def utf_Bytes.lead (h c : Int) : Int := bits BinOp.or IntKind.i64 h c % 256
def utf_Bytes.nums (c : Int) : List Int :=
  if 65536 ≤ c then [utf_Bytes.lead (bits BinOp.or IntKind.i64 (bits BinOp.or IntKind.i64 (bits BinOp.or IntKind.i64 0 16) 32) 192) (c / 64 / 64 / 64), utf_Bytes.cont (c / 64 / 64), utf_Bytes.cont (c / 64), utf_Bytes.cont c]
  else if 2048 ≤ c then [utf_Bytes.lead (bits BinOp.or IntKind.i64 (bits BinOp.or IntKind.i64 0 32) 192) (c / 64 / 64), utf_Bytes.cont (c / 64), utf_Bytes.cont c]
  else if 128 ≤ c then [utf_Bytes.lead (bits BinOp.or IntKind.i64 0 192) (c / 64), utf_Bytes.cont c]
  else [utf_Bytes.lead 0 c]
def utf_Bytes.f (a0 : Int) : Option (ByteArray × Int) := (utf_is.f a0).bind fun t => if t = true then (if 0 ≤ a0 ∧ a0 ≤ 1114111 then some (strOfNums (utf_Bytes.nums a0), 0) else none) else some (⟨#[]⟩, 1)
set_option maxHeartbeats 4000000 in
set_option maxRecDepth 100000 in
theorem utf_Bytes.calls (a0 : Int) (r1 : ByteArray) (r2 : Int) (w : World) (h : utf_Bytes.f a0 = some (r1, r2)) :
    Calls Try.prog 9 #[.int .i64 a0] w fun e w' => e = .returned (.tuple #[.string r1, .int .i64 r2]) ∧ Below w.heap.size w w' := by
  unfold utf_Bytes.f at h
  replace h := Option.bind_eq_some_iff.mp h
  obtain ⟨t, h1, h⟩ := h
  have H1 := Lib.hid h1
  clear h1
  by_cases ht : t = true
  · subst ht
    rw [if_pos rfl] at h
    by_cases hr : 0 ≤ a0 ∧ a0 ≤ 1114111
    · rw [if_pos hr] at h
      obtain ⟨q0, q1⟩ := hr
      injection h with h
      injection h with h2 h3
      subst h3
      go_enter Try.func9, Try.ntmps9
      go_wp2_with fail
      refine (utf_is.calls a0 true _ H1.out).mono ?_
      rintro e w' ⟨rfl, ⟨nd, rfl⟩⟩
      by_cases d4 : 65536 ≤ a0
      · have HN : Hid (utf_Bytes.nums a0 = [utf_Bytes.lead (bits BinOp.or IntKind.i64 (bits BinOp.or IntKind.i64 (bits BinOp.or IntKind.i64 0 16) 32) 192) (a0 / 64 / 64 / 64), utf_Bytes.cont (a0 / 64 / 64), utf_Bytes.cont (a0 / 64), utf_Bytes.cont a0]) := Lib.hid (by unfold utf_Bytes.nums; rw [if_pos d4])
        rw [HN.out] at h2
        have HR := Lib.hid h2
        clear h2 HN
        go_upto_region 8 with (fail)
        have R0 : Go.Proofs.Ythhpoogocpdbjaa.Oct.Room ((w.drewN nd).alloc (Obj.cells #[Value.int IntKind.u8 0, Value.int IntKind.u8 0, Value.int IntKind.u8 0, Value.int IntKind.u8 0] 46)) w.heap.size 46 4 4 [] := ⟨_, heap_alloc_new (w.drewN nd) _, rfl, by decide, rfl⟩
        have B0 : Below w.heap.size w ((w.drewN nd).alloc (Obj.cells #[Value.int IntKind.u8 0, Value.int IntKind.u8 0, Value.int IntKind.u8 0, Value.int IntKind.u8 0] 46)) := Below.alloc (pw_below_drewN (Below.refl _ _) nd) (Nat.le_refl _) _
        obtain ⟨v0, c0⟩ := R0.cell 3 (by omega)
        have f0 := R0.free 3
        have R1 := R0.put (utf_Bytes.cont a0)
        have B1 := B0.setCell (p := ⟨w.heap.size, 3, none⟩) (Nat.le_refl _) (.int .u8 (utf_Bytes.cont a0))
        unfold utf_Bytes.cont at R1 B1
        go_upto_region 10 with (fail)
        obtain ⟨v1, c1⟩ := R1.cell 2 (by omega)
        have f1 := R1.free 2
        have R2 := R1.put (utf_Bytes.cont (a0 / 64))
        have B2 := B1.setCell (p := ⟨w.heap.size, 2, none⟩) (Nat.le_refl _) (.int .u8 (utf_Bytes.cont (a0 / 64)))
        unfold utf_Bytes.cont at R2 B2
        go_upto_region 12 with (fail)
        obtain ⟨v2, c2⟩ := R2.cell 1 (by omega)
        have f2 := R2.free 1
        have R3 := R2.put (utf_Bytes.cont (a0 / 64 / 64))
        have B3 := B2.setCell (p := ⟨w.heap.size, 1, none⟩) (Nat.le_refl _) (.int .u8 (utf_Bytes.cont (a0 / 64 / 64)))
        unfold utf_Bytes.cont at R3 B3
        go_upto_region 14 with (fail)
        obtain ⟨v3, c3⟩ := R3.cell 0 (by omega)
        have f3 := R3.free 0
        have R4 := R3.put (utf_Bytes.lead (bits BinOp.or IntKind.i64 (bits BinOp.or IntKind.i64 (bits BinOp.or IntKind.i64 0 16) 32) 192) (a0 / 64 / 64 / 64))
        have B4 := B3.setCell (p := ⟨w.heap.size, 0, none⟩) (Nat.le_refl _) (.int .u8 (utf_Bytes.lead (bits BinOp.or IntKind.i64 (bits BinOp.or IntKind.i64 (bits BinOp.or IntKind.i64 0 16) 32) 192) (a0 / 64 / 64 / 64)))
        have T := R4.text (P := Try.prog) 48 5 Try.underlying48 Try.underlying5 9 Try.underlying9 4 4 rfl
        unfold utf_Bytes.lead at R4 B4 T
        have HT := HR.out
        unfold utf_Bytes.lead at HT
        unfold utf_Bytes.cont at HT
        rw [HT] at T
        clear HT
        go_upto_region 15 with (fail)
        have hsl := fun wr => Go.Proofs.Ythhpoogocpdbjaa.Oct.slice_array (P := Try.prog) wr 46 5 4 w.heap.size 0 Try.underlying46 (by rfl) (by omega)
        go_wp2
        go_ret2
        exact ⟨rfl, B4⟩
      by_cases d3 : 2048 ≤ a0
      · have HN : Hid (utf_Bytes.nums a0 = [utf_Bytes.lead (bits BinOp.or IntKind.i64 (bits BinOp.or IntKind.i64 0 32) 192) (a0 / 64 / 64), utf_Bytes.cont (a0 / 64), utf_Bytes.cont a0]) := Lib.hid (by unfold utf_Bytes.nums; rw [if_neg d4, if_pos d3])
        rw [HN.out] at h2
        have HR := Lib.hid h2
        clear h2 HN
        go_upto_region 10 with (fail)
        have R0 : Go.Proofs.Ythhpoogocpdbjaa.Oct.Room ((w.drewN nd).alloc (Obj.cells #[Value.int IntKind.u8 0, Value.int IntKind.u8 0, Value.int IntKind.u8 0, Value.int IntKind.u8 0] 46)) w.heap.size 46 4 4 [] := ⟨_, heap_alloc_new (w.drewN nd) _, rfl, by decide, rfl⟩
        have B0 : Below w.heap.size w ((w.drewN nd).alloc (Obj.cells #[Value.int IntKind.u8 0, Value.int IntKind.u8 0, Value.int IntKind.u8 0, Value.int IntKind.u8 0] 46)) := Below.alloc (pw_below_drewN (Below.refl _ _) nd) (Nat.le_refl _) _
        obtain ⟨v0, c0⟩ := R0.cell 3 (by omega)
        have f0 := R0.free 3
        have R1 := R0.put (utf_Bytes.cont a0)
        have B1 := B0.setCell (p := ⟨w.heap.size, 3, none⟩) (Nat.le_refl _) (.int .u8 (utf_Bytes.cont a0))
        unfold utf_Bytes.cont at R1 B1
        go_upto_region 12 with (fail)
        obtain ⟨v1, c1⟩ := R1.cell 2 (by omega)
        have f1 := R1.free 2
        have R2 := R1.put (utf_Bytes.cont (a0 / 64))
        have B2 := B1.setCell (p := ⟨w.heap.size, 2, none⟩) (Nat.le_refl _) (.int .u8 (utf_Bytes.cont (a0 / 64)))
        unfold utf_Bytes.cont at R2 B2
        go_upto_region 14 with (fail)
        obtain ⟨v2, c2⟩ := R2.cell 1 (by omega)
        have f2 := R2.free 1
        have R3 := R2.put (utf_Bytes.lead (bits BinOp.or IntKind.i64 (bits BinOp.or IntKind.i64 0 32) 192) (a0 / 64 / 64))
        have B3 := B2.setCell (p := ⟨w.heap.size, 1, none⟩) (Nat.le_refl _) (.int .u8 (utf_Bytes.lead (bits BinOp.or IntKind.i64 (bits BinOp.or IntKind.i64 0 32) 192) (a0 / 64 / 64)))
        have T := R3.text (P := Try.prog) 48 5 Try.underlying48 Try.underlying5 9 Try.underlying9 3 3 rfl
        unfold utf_Bytes.lead at R3 B3 T
        have HT := HR.out
        unfold utf_Bytes.lead at HT
        unfold utf_Bytes.cont at HT
        rw [HT] at T
        clear HT
        go_upto_region 15 with (fail)
        have hsl := fun wr => Go.Proofs.Ythhpoogocpdbjaa.Oct.slice_array (P := Try.prog) wr 46 5 4 w.heap.size 1 Try.underlying46 (by rfl) (by omega)
        go_wp2
        go_ret2
        exact ⟨rfl, B3⟩
      by_cases d2 : 128 ≤ a0
      · have HN : Hid (utf_Bytes.nums a0 = [utf_Bytes.lead (bits BinOp.or IntKind.i64 0 192) (a0 / 64), utf_Bytes.cont a0]) := Lib.hid (by unfold utf_Bytes.nums; rw [if_neg d4, if_neg d3, if_pos d2])
        rw [HN.out] at h2
        have HR := Lib.hid h2
        clear h2 HN
        go_upto_region 12 with (fail)
        have R0 : Go.Proofs.Ythhpoogocpdbjaa.Oct.Room ((w.drewN nd).alloc (Obj.cells #[Value.int IntKind.u8 0, Value.int IntKind.u8 0, Value.int IntKind.u8 0, Value.int IntKind.u8 0] 46)) w.heap.size 46 4 4 [] := ⟨_, heap_alloc_new (w.drewN nd) _, rfl, by decide, rfl⟩
        have B0 : Below w.heap.size w ((w.drewN nd).alloc (Obj.cells #[Value.int IntKind.u8 0, Value.int IntKind.u8 0, Value.int IntKind.u8 0, Value.int IntKind.u8 0] 46)) := Below.alloc (pw_below_drewN (Below.refl _ _) nd) (Nat.le_refl _) _
        obtain ⟨v0, c0⟩ := R0.cell 3 (by omega)
        have f0 := R0.free 3
        have R1 := R0.put (utf_Bytes.cont a0)
        have B1 := B0.setCell (p := ⟨w.heap.size, 3, none⟩) (Nat.le_refl _) (.int .u8 (utf_Bytes.cont a0))
        unfold utf_Bytes.cont at R1 B1
        go_upto_region 14 with (fail)
        obtain ⟨v1, c1⟩ := R1.cell 2 (by omega)
        have f1 := R1.free 2
        have R2 := R1.put (utf_Bytes.lead (bits BinOp.or IntKind.i64 0 192) (a0 / 64))
        have B2 := B1.setCell (p := ⟨w.heap.size, 2, none⟩) (Nat.le_refl _) (.int .u8 (utf_Bytes.lead (bits BinOp.or IntKind.i64 0 192) (a0 / 64)))
        have T := R2.text (P := Try.prog) 48 5 Try.underlying48 Try.underlying5 9 Try.underlying9 2 2 rfl
        unfold utf_Bytes.lead at R2 B2 T
        have HT := HR.out
        unfold utf_Bytes.lead at HT
        unfold utf_Bytes.cont at HT
        rw [HT] at T
        clear HT
        go_upto_region 15 with (fail)
        have hsl := fun wr => Go.Proofs.Ythhpoogocpdbjaa.Oct.slice_array (P := Try.prog) wr 46 5 4 w.heap.size 2 Try.underlying46 (by rfl) (by omega)
        go_wp2
        go_ret2
        exact ⟨rfl, B2⟩
      have HN : Hid (utf_Bytes.nums a0 = [utf_Bytes.lead 0 a0]) := Lib.hid (by unfold utf_Bytes.nums; rw [if_neg d4, if_neg d3, if_neg d2])
      rw [HN.out] at h2
      have HR := Lib.hid h2
      clear h2 HN
      go_upto_region 14 with (fail)
      have R0 : Go.Proofs.Ythhpoogocpdbjaa.Oct.Room ((w.drewN nd).alloc (Obj.cells #[Value.int IntKind.u8 0, Value.int IntKind.u8 0, Value.int IntKind.u8 0, Value.int IntKind.u8 0] 46)) w.heap.size 46 4 4 [] := ⟨_, heap_alloc_new (w.drewN nd) _, rfl, by decide, rfl⟩
      have B0 : Below w.heap.size w ((w.drewN nd).alloc (Obj.cells #[Value.int IntKind.u8 0, Value.int IntKind.u8 0, Value.int IntKind.u8 0, Value.int IntKind.u8 0] 46)) := Below.alloc (pw_below_drewN (Below.refl _ _) nd) (Nat.le_refl _) _
      obtain ⟨v0, c0⟩ := R0.cell 3 (by omega)
      have f0 := R0.free 3
      have R1 := R0.put (utf_Bytes.lead 0 a0)
      have B1 := B0.setCell (p := ⟨w.heap.size, 3, none⟩) (Nat.le_refl _) (.int .u8 (utf_Bytes.lead 0 a0))
      have T := R1.text (P := Try.prog) 48 5 Try.underlying48 Try.underlying5 9 Try.underlying9 1 1 rfl
      unfold utf_Bytes.lead at R1 B1 T
      have HT := HR.out
      unfold utf_Bytes.lead at HT
      rw [HT] at T
      clear HT
      go_upto_region 15 with (fail)
      have hsl := fun wr => Go.Proofs.Ythhpoogocpdbjaa.Oct.slice_array (P := Try.prog) wr 46 5 4 w.heap.size 3 Try.underlying46 (by rfl) (by omega)
      go_wp2
      go_ret2
      exact ⟨rfl, B1⟩
    · rw [if_neg hr] at h
      cases h
  · obtain rfl : t = false := by cases t with | false => rfl | true => exact absurd rfl ht
    rw [if_neg (by decide)] at h
    injection h with h
    injection h with h2 h3
    subst h2
    subst h3
    go_enter Try.func9, Try.ntmps9
    go_wp2_with fail
    refine (utf_is.calls a0 false _ H1.out).mono ?_
    rintro e w' ⟨rfl, ⟨nd, rfl⟩⟩
    go_wp2
    go_ret2
    exact ⟨rfl, pw_below_drewN (Below.refl _ _) nd⟩

/-! ### utf_long: function 30 -/
def utf_long.f (a0 : Int) : Option (Int × Int) := if a0 < 128 then (some (1, wrap64 (a0))) else (if (a0 / 32) = 6 then (some (2, wrap64 (Go.bits .and .u8 a0 31))) else (if (a0 / 16) = 14 then (some (3, wrap64 (Go.bits .and .u8 a0 15))) else (if (a0 / 8) = 30 then (some (4, wrap64 (Go.bits .and .u8 a0 7))) else (some (0, 0)))))
set_option maxHeartbeats 8000000 in
set_option maxRecDepth 100000 in
theorem utf_long.calls (a0 : Int) (r1 : Int) (r2 : Int) (w : World) (h : utf_long.f a0 = some (r1, r2)) :
    Calls Try.prog 30 #[.int .u8 a0] w fun e w' => e = .returned (.tuple #[.int .i64 r1, .int .i64 r2]) ∧ Drawn0 w w' := by
  have H : (if a0 < 128 then (some (1, wrap64 (a0))) else (if (a0 / 32) = 6 then (some (2, wrap64 (Go.bits .and .u8 a0 31))) else (if (a0 / 16) = 14 then (some (3, wrap64 (Go.bits .and .u8 a0 15))) else (if (a0 / 8) = 30 then (some (4, wrap64 (Go.bits .and .u8 a0 7))) else (some (0, 0)))))) = some (r1, r2) := h
  clear h
  by_cases c2 : a0 < 128
  · rw [if_pos c2] at H
    have c2b0 : decide (a0 < 128) = true := decide_eq_true c2
    clear c2
    simp only [Option.some.injEq, Prod.mk.injEq] at H
    obtain ⟨rfl, rfl⟩ := H
    go_enter Try.func30, Try.ntmps30
    go_wp2
    go_ret2
    exact ⟨by first | rfl | (simp; done) | (simp [*]; done), by repeat (first | exact Drawn0.refl _ | apply Drawn0.step)⟩
  · rw [if_neg c2] at H
    have c2b0 : decide (a0 < 128) = false := decide_eq_false c2
    clear c2
    by_cases c3 : (a0 / 32) = 6
    · rw [if_pos c3] at H
      have c3b0 : ((a0 / 32) == 6) = true := beq_iff_eq.mpr c3
      have c3b1 : ((a0 / 32) != 6) = false := bne_eq_false_iff_eq.mpr c3
      clear c3
      simp only [Option.some.injEq, Prod.mk.injEq] at H
      obtain ⟨rfl, rfl⟩ := H
      go_enter Try.func30, Try.ntmps30
      go_wp2
      go_ret2
      exact ⟨by first | rfl | (simp; done) | (simp [*]; done), by repeat (first | exact Drawn0.refl _ | apply Drawn0.step)⟩
    · rw [if_neg c3] at H
      have c3b0 : ((a0 / 32) == 6) = false := beq_eq_false_iff_ne.mpr c3
      have c3b1 : ((a0 / 32) != 6) = true := bne_iff_ne.mpr c3
      by_cases c4 : (a0 / 16) = 14
      · rw [if_pos c4] at H
        have c4b0 : ((a0 / 16) == 14) = true := beq_iff_eq.mpr c4
        have c4b1 : ((a0 / 16) != 14) = false := bne_eq_false_iff_eq.mpr c4
        clear c4
        simp only [Option.some.injEq, Prod.mk.injEq] at H
        obtain ⟨rfl, rfl⟩ := H
        go_enter Try.func30, Try.ntmps30
        go_wp2
        go_ret2
        exact ⟨by first | rfl | (simp; done) | (simp [*]; done), by repeat (first | exact Drawn0.refl _ | apply Drawn0.step)⟩
      · rw [if_neg c4] at H
        have c4b0 : ((a0 / 16) == 14) = false := beq_eq_false_iff_ne.mpr c4
        have c4b1 : ((a0 / 16) != 14) = true := bne_iff_ne.mpr c4
        by_cases c5 : (a0 / 8) = 30
        · rw [if_pos c5] at H
          have c5b0 : ((a0 / 8) == 30) = true := beq_iff_eq.mpr c5
          have c5b1 : ((a0 / 8) != 30) = false := bne_eq_false_iff_eq.mpr c5
          clear c5
          simp only [Option.some.injEq, Prod.mk.injEq] at H
          obtain ⟨rfl, rfl⟩ := H
          go_enter Try.func30, Try.ntmps30
          go_wp2
          go_ret2
          exact ⟨by first | rfl | (simp; done) | (simp [*]; done), by repeat (first | exact Drawn0.refl _ | apply Drawn0.step)⟩
        · rw [if_neg c5] at H
          have c5b0 : ((a0 / 8) == 30) = false := beq_eq_false_iff_ne.mpr c5
          have c5b1 : ((a0 / 8) != 30) = true := bne_iff_ne.mpr c5
          simp only [Option.some.injEq, Prod.mk.injEq] at H
          obtain ⟨rfl, rfl⟩ := H
          go_enter Try.func30, Try.ntmps30
          go_wp2
          go_ret2
          exact ⟨by first | rfl | (simp; done) | (simp [*]; done), by repeat (first | exact Drawn0.refl _ | apply Drawn0.step)⟩

/-! ### utf_least: function 31 -/
def utf_least.f (a0 : Int) : Option (Int) := if a0 = 2 then (some 128) else (if a0 = 3 then (some 2048) else (if a0 = 4 then (some 65536) else (some 0)))
set_option maxHeartbeats 8000000 in
set_option maxRecDepth 100000 in
theorem utf_least.calls (a0 : Int) (r : Int) (w : World) (h : utf_least.f a0 = some r) :
    Calls Try.prog 31 #[.int .i64 a0] w fun e w' => e = .returned (.int .i64 r) ∧ Drawn0 w w' := by
  have H : (if a0 = 2 then (some 128) else (if a0 = 3 then (some 2048) else (if a0 = 4 then (some 65536) else (some 0)))) = some r := h
  clear h
  by_cases c2 : a0 = 2
  · rw [if_pos c2] at H
    have c2b0 : (a0 == 2) = true := beq_iff_eq.mpr c2
    have c2b1 : (a0 != 2) = false := bne_eq_false_iff_eq.mpr c2
    clear c2
    obtain rfl := Option.some.inj H
    go_enter Try.func31, Try.ntmps31
    go_wp2
    go_ret
    exact ⟨by first | rfl | (simp; done) | (simp [*]; done), by repeat (first | exact Drawn0.refl _ | apply Drawn0.step)⟩
  · rw [if_neg c2] at H
    have c2b0 : (a0 == 2) = false := beq_eq_false_iff_ne.mpr c2
    have c2b1 : (a0 != 2) = true := bne_iff_ne.mpr c2
    by_cases c3 : a0 = 3
    · rw [if_pos c3] at H
      have c3b0 : (a0 == 3) = true := beq_iff_eq.mpr c3
      have c3b1 : (a0 != 3) = false := bne_eq_false_iff_eq.mpr c3
      clear c3
      obtain rfl := Option.some.inj H
      go_enter Try.func31, Try.ntmps31
      go_wp2
      go_ret
      exact ⟨by first | rfl | (simp; done) | (simp [*]; done), by repeat (first | exact Drawn0.refl _ | apply Drawn0.step)⟩
    · rw [if_neg c3] at H
      have c3b0 : (a0 == 3) = false := beq_eq_false_iff_ne.mpr c3
      have c3b1 : (a0 != 3) = true := bne_iff_ne.mpr c3
      by_cases c4 : a0 = 4
      · rw [if_pos c4] at H
        have c4b0 : (a0 == 4) = true := beq_iff_eq.mpr c4
        have c4b1 : (a0 != 4) = false := bne_eq_false_iff_eq.mpr c4
        clear c4
        obtain rfl := Option.some.inj H
        go_enter Try.func31, Try.ntmps31
        go_wp2
        go_ret
        exact ⟨by first | rfl | (simp; done) | (simp [*]; done), by repeat (first | exact Drawn0.refl _ | apply Drawn0.step)⟩
      · rw [if_neg c4] at H
        have c4b0 : (a0 == 4) = false := beq_eq_false_iff_ne.mpr c4
        have c4b1 : (a0 != 4) = true := bne_iff_ne.mpr c4
        obtain rfl := Option.some.inj H
        go_enter Try.func31, Try.ntmps31
        go_wp2
        go_ret
        exact ⟨by first | rfl | (simp; done) | (simp [*]; done), by repeat (first | exact Drawn0.refl _ | apply Drawn0.step)⟩

/-! ### utf_First: function 14 -/
mutual
def utf_First.j0 : Nat → ByteArray → Int → Int → Bool → Option (Int × Int × Int)
  | 0, _, _, _, _ => none
  | k + 1, x0, x2, x3, x21 => if x21 = true then (some (0, 0, 40)) else (utf_First.l0 k x0 x2 x3 1)
def utf_First.l0 : Nat → ByteArray → Int → Int → Int → Option (Int × Int × Int)
  | 0, _, _, _, _ => none
  | k + 1, x0, x2, x3, x5 => if x5 < x3 then (if 0 ≤ x5 then (if x5 < (x0.size : Int) then (if ((bt x0 x5) / 64) = 2 then (utf_First.l0 k x0 (Go.bits .or .i64 (wrap64 (x2 * 64)) (wrap64 (Go.bits .and .u8 (bt x0 x5) 63))) x3 (wrap64 (x5 + 1))) else (some (0, 0, 40))) else (none)) else (none)) else ((utf_is.f x2).bind fun t103 => (if t103 = true then ((utf_least.f x3).bind fun t104 => (if x2 < t104 then (some (0, 0, 40)) else (some (x2, x3, 0)))) else (some (0, 0, 40))))
end
def utf_First.f (k : Nat) (a0 : ByteArray) : Option (Int × Int × Int) := if a0.toList = ([] : List UInt8) then (some (0, 0, 40)) else (if 0 < (a0.size : Int) then ((utf_long.f (bt a0 0)).bind fun bt101 => (if bt101.1 = 0 then (utf_First.j0 k a0 bt101.2 bt101.1 true) else (utf_First.j0 k a0 bt101.2 bt101.1 (decide (bt101.1 > (a0.size : Int)))))) else (none))
theorem utf_First.mono_l : ∀ k, (∀ y0 y1 y2 y3, LeO (utf_First.j0 k y0 y1 y2 y3) (utf_First.j0 (k + 1) y0 y1 y2 y3)) ∧ (∀ y0 y1 y2 y3, LeO (utf_First.l0 k y0 y1 y2 y3) (utf_First.l0 (k + 1) y0 y1 y2 y3))
  | 0 => ⟨fun _ _ _ _ r h => by simp [utf_First.j0] at h, fun _ _ _ _ r h => by simp [utf_First.l0] at h⟩
  | k + 1 => by
    obtain ⟨ih0, ih1⟩ := utf_First.mono_l k
    refine ⟨?_, ?_⟩
    · intro y0 y1 y2 y3
      unfold utf_First.j0
      repeat' first
      | (with_reducible exact ih0 _ _ _ _)
      | (with_reducible exact ih1 _ _ _ _)
      | (with_reducible exact LeO.refl _)
      | (with_reducible exact LeO.none _)
      | (with_reducible refine LeO.ite ?_ ?_)
      | (with_reducible refine LeO.bind ?_ (fun _ => ?_))
      | exact ih0 _ _ _ _
      | exact ih1 _ _ _ _
      | exact LeO.none _
      | refine LeO.ite ?_ ?_
      | refine LeO.bind ?_ (fun _ => ?_)
    · intro y0 y1 y2 y3
      unfold utf_First.l0
      repeat' first
      | (with_reducible exact ih0 _ _ _ _)
      | (with_reducible exact ih1 _ _ _ _)
      | (with_reducible exact LeO.refl _)
      | (with_reducible exact LeO.none _)
      | (with_reducible refine LeO.ite ?_ ?_)
      | (with_reducible refine LeO.bind ?_ (fun _ => ?_))
      | exact ih0 _ _ _ _
      | exact ih1 _ _ _ _
      | exact LeO.none _
      | refine LeO.ite ?_ ?_
      | refine LeO.bind ?_ (fun _ => ?_)
theorem utf_First.mono : ∀ a0 k, LeO (utf_First.f k a0) (utf_First.f (k + 1) a0) := by
  intro a0 k
  obtain ⟨ih0, ih1⟩ := utf_First.mono_l k
  unfold utf_First.f
  repeat' first
      | (with_reducible exact ih0 _ _ _ _)
      | (with_reducible exact ih1 _ _ _ _)
      | (with_reducible exact LeO.refl _)
      | (with_reducible exact LeO.none _)
      | (with_reducible refine LeO.ite ?_ ?_)
      | (with_reducible refine LeO.bind ?_ (fun _ => ?_))
      | exact ih0 _ _ _ _
      | exact ih1 _ _ _ _
      | exact LeO.none _
      | refine LeO.ite ?_ ?_
      | refine LeO.bind ?_ (fun _ => ?_)
set_option maxHeartbeats 8000000 in
set_option maxRecDepth 100000 in
theorem utf_First.calls (k : Nat) (a0 : ByteArray) (r1 : Int) (r2 : Int) (r3 : Int) (w : World) (h : utf_First.f k a0 = some (r1, r2, r3)) :
    Calls Try.prog 14 #[.string a0] w fun e w' => e = .returned (.tuple #[.int .i64 r1, .int .i64 r2, .int .i64 r3]) ∧ Drawn0 w w' := by
  have H : (if a0.toList = ([] : List UInt8) then (some (0, 0, 40)) else (if 0 < (a0.size : Int) then ((utf_long.f (bt a0 0)).bind fun bt101 => (if bt101.1 = 0 then (utf_First.j0 k a0 bt101.2 bt101.1 true) else (utf_First.j0 k a0 bt101.2 bt101.1 (decide (bt101.1 > (a0.size : Int)))))) else (none))) = some (r1, r2, r3) := h
  clear h
  by_cases c2 : a0.toList = ([] : List UInt8)
  · rw [if_pos c2] at H
    have c2b0 : (a0.toList == ([] : List UInt8)) = true := beq_iff_eq.mpr c2
    have c2b1 : (a0.toList != ([] : List UInt8)) = false := bne_eq_false_iff_eq.mpr c2
    clear c2
    simp only [Option.some.injEq, Prod.mk.injEq] at H
    obtain ⟨rfl, rfl, rfl⟩ := H
    go_enter Try.func14, Try.ntmps14
    go_wp2
    go_ret3
    exact ⟨by first | rfl | (simp; done) | (simp [*]; done), by repeat (first | exact Drawn0.refl _ | apply Drawn0.step)⟩
  · rw [if_neg c2] at H
    have c2b0 : (a0.toList == ([] : List UInt8)) = false := beq_eq_false_iff_ne.mpr c2
    have c2b1 : (a0.toList != ([] : List UInt8)) = true := bne_iff_ne.mpr c2
    by_cases c3 : 0 < (a0.size : Int)
    · rw [if_pos c3] at H
      have c3b0 : decide (0 < (a0.size : Int)) = true := decide_eq_true c3
      have c3b1 : decide (0 < a0.size) = true := decide_eq_true (by omega)
      clear c3
      replace H := Option.bind_eq_some_iff.mp H
      obtain ⟨⟨t101, t102⟩, A50, H⟩ := H
      replace H : (if t101 = 0 then (utf_First.j0 k a0 t102 t101 true) else (utf_First.j0 k a0 t102 t101 (decide (t101 > (a0.size : Int))))) = some (r1, r2, r3) := H
      have A5 := Aside0.mk A50
      clear A50
      have HC6 := Aside0.mk H
      clear H
      have p4 : 0 ≤ (0 : Int) := (by omega)
      have q4 : 0 < a0.size := (by have : (0 : Int) < (a0.size : Int) := of_decide_eq_true (by first | (with_reducible assumption) | assumption); omega)
      have hx4 : ∀ h : 0 < a0.size, ((a0[0]'h).toNat : Int) = bt a0 0 := bt_at a0 0
      clear p4
      have qi4 : (0 < (a0.size : Int)) = True := eq_true (of_decide_eq_true (by first | (with_reducible assumption) | assumption))
      replace q4 := eq_true q4
      go_enter Try.func14, Try.ntmps14
      go_upto_region 4 with (first | ((with_reducible refine gate_callee (f := 30) rfl ?_); refine goesL_ (some 11) rfl rfl Try.func30 (by kernel_rfl) rfl #[.int .u8 (bt a0 0)] rfl (by (try simp only [List.map_toArray, List.map_cons, List.map_nil]); first | done | rfl | (simp only [List.length_drop, List.length_take]; rfl)) ?_; (with_reducible refine (utf_long.calls (bt a0 0) t101 t102 _ A5.out).mono ?_); rintro e w' ⟨rfl, ⟨nd, rfl⟩⟩; refine ⟨_, rfl, ?_⟩))
      (try simp only [Act.put, List.setIfInBounds_toArray, List.set_cons_zero, List.set_cons_succ])
      go_cut [21] (fun v21 wc => ∃ (kq : Nat) (x21_5 : Bool), v21 = .bool x21_5 ∧ Aside0 (utf_First.j0 kq a0 t102 t101 x21_5 = some (r1, r2, r3)) ∧ Aside0 (kq ≤ k) ∧ Drawn0 w wc)
      case first =>
        have H := HC6.out
        clear HC6
        by_cases c7 : t101 = 0
        · rw [if_pos c7] at H
          have c7b0 : (t101 == 0) = true := beq_iff_eq.mpr c7
          have c7b1 : (t101 != 0) = false := bne_eq_false_iff_eq.mpr c7
          clear c7
          (first | rw [c7b0] | (simp only [i64_w, i32_w]; rw [c7b0]) | skip)
          have H' := Aside0.mk H
          clear H
          go_wp2
          go_meet
          case rel => exact ⟨_, (true), (by first | rfl | (simp; done) | (simp [*]; done)), H', ⟨by first | omega | exact Nat.le_refl _⟩, by repeat (first | exact Drawn0.refl _ | apply Drawn0.step)⟩
        · rw [if_neg c7] at H
          have c7b0 : (t101 == 0) = false := beq_eq_false_iff_ne.mpr c7
          have c7b1 : (t101 != 0) = true := bne_iff_ne.mpr c7
          (first | rw [c7b0] | (simp only [i64_w, i32_w]; rw [c7b0]) | skip)
          have H' := Aside0.mk H
          clear H
          go_wp2
          go_meet
          case rel => exact ⟨_, (decide (t101 > (a0.size : Int))), (by first | rfl | (simp; done) | (simp [*]; done)), H', ⟨by first | omega | exact Nat.le_refl _⟩, by repeat (first | exact Drawn0.refl _ | apply Drawn0.step)⟩
      case rest =>
        clear HC6
        try clear c1
        try clear c2
        try clear c2b0
        try clear c2b1
        try clear p2
        try clear c3
        try clear c3b0
        try clear c3b1
        try clear p4
        try clear q4
        try clear hx4
        try clear qi4
        try clear c7
        try clear c7b0
        try clear c7b1
        try clear p4
        try clear q4
        obtain ⟨kq, x21_5, rfl, HA, HJ5, ⟨mc5, rfl⟩⟩ := hcut
        cases kq with
        | zero => exact absurd HA.out (by simp [utf_First.j0])
        | succ kj5 =>
          have H := HA.out
          clear HA
          simp only [utf_First.j0] at H
          by_cases c8 : x21_5 = true
          · subst c8
            have H1 : (some (0, 0, 40)) = some (r1, r2, r3) := by rw [if_pos rfl] at H; exact H
            clear H
            have H := H1
            clear H1
            simp only [Option.some.injEq, Prod.mk.injEq] at H
            obtain ⟨rfl, rfl, rfl⟩ := H
            go_wp2
            go_ret3
            exact ⟨by first | rfl | (simp; done) | (simp [*]; done), by repeat (first | exact Drawn0.refl _ | apply Drawn0.step)⟩
          · replace c8 := Bool.eq_false_iff.mpr c8
            subst c8
            have H1 : (utf_First.l0 kj5 a0 t102 t101 1) = some (r1, r2, r3) := by rw [if_neg (show ¬ (false = true) by decide)] at H; exact H
            clear H
            have H := H1
            clear H1
            have H' := Aside0.mk H
            clear H
            go_wp2
            go_loopg [2, 3, 5] kj5 (fun kq v2 v3 v5 w' => ∃ (x2_2 : Int) (x3_2 : Int) (x5_2 : Int), v2 = .int .i64 x2_2 ∧ v3 = .int .i64 x3_2 ∧ v5 = .int .i64 x5_2 ∧ Aside0 (utf_First.l0 kq a0 x2_2 x3_2 x5_2 = some (r1, r2, r3)) ∧ Aside0 (kq ≤ kj5) ∧ Drawn0 w w')
            case atStart => exact ⟨(t102), (t101), (1), (by first | rfl | (simp; done) | (simp [*]; done)), (by first | rfl | (simp; done) | (simp [*]; done)), (by first | rfl | (simp; done) | (simp [*]; done)), H', ⟨Nat.le_refl _⟩, by repeat (first | exact Drawn0.refl _ | apply Drawn0.step)⟩
            case round =>
              clear H'
              try clear c1
              try clear c2
              try clear c2b0
              try clear c2b1
              try clear p2
              try clear c3
              try clear c3b0
              try clear c3b1
              try clear p4
              try clear q4
              try clear hx4
              try clear qi4
              try clear c5
              try clear c7
              try clear c7b0
              try clear c7b1
              try clear c8
              try clear p2
              try clear p4
              try clear q4
              obtain ⟨x2_2, x3_2, x5_2, rfl, rfl, rfl, HA, HK2, ⟨m2, rfl⟩⟩ := hrel
              cases gk with
              | zero => exact absurd HA.out (by simp [utf_First.l0])
              | succ k2 =>
                have H := HA.out
                clear HA
                simp only [utf_First.l0] at H
                by_cases c9 : x5_2 < x3_2
                · rw [if_pos c9] at H
                  have c9b0 : decide (x5_2 < x3_2) = true := decide_eq_true c9
                  clear c9
                  by_cases c10 : 0 ≤ x5_2
                  · rw [if_pos c10] at H
                    have c10b0 : decide (0 ≤ x5_2) = true := decide_eq_true c10
                    clear c10
                    by_cases c11 : x5_2 < (a0.size : Int)
                    · rw [if_pos c11] at H
                      have c11b0 : decide (x5_2 < (a0.size : Int)) = true := decide_eq_true c11
                      clear c11
                      by_cases c13 : ((bt a0 x5_2) / 64) = 2
                      · rw [if_pos c13] at H
                        have c13b0 : (((bt a0 x5_2) / 64) == 2) = true := beq_iff_eq.mpr c13
                        have c13b1 : (((bt a0 x5_2) / 64) != 2) = false := bne_eq_false_iff_eq.mpr c13
                        clear c13
                        have H' := Aside0.mk H
                        clear H
                        have p12 : 0 ≤ (x5_2 : Int) := of_decide_eq_true (by first | (with_reducible assumption) | assumption)
                        have q12 : x5_2 < (a0.size : Int) := of_decide_eq_true (by first | (with_reducible assumption) | assumption)
                        have hx12 := bt_at a0 x5_2
                        replace p12 := eq_true p12
                        replace q12 := eq_true q12
                        have p14 : 0 ≤ (x5_2 : Int) := of_decide_eq_true (by first | (with_reducible assumption) | assumption)
                        have q14 : x5_2 < (a0.size : Int) := of_decide_eq_true (by first | (with_reducible assumption) | assumption)
                        have hx14 := bt_at a0 x5_2
                        replace p14 := eq_true p14
                        replace q14 := eq_true q14
                        go_wp2
                        go_roundg k2
                        case measure => have := HJ5.out; have := HK2.out; omega
                        case rel => exact ⟨(Go.bits .or .i64 (wrap64 (x2_2 * 64)) (wrap64 (Go.bits .and .u8 (bt a0 x5_2) 63))), (x3_2), (wrap64 (x5_2 + 1)), (by first | rfl | (simp; done) | (simp [*]; done)), (by first | rfl | (simp; done) | (simp [*]; done)), (by first | rfl | (simp; done) | (simp [*]; done)), H', ⟨by have := HJ5.out; have := HK2.out; omega⟩, by repeat (first | exact Drawn0.refl _ | apply Drawn0.step)⟩
                      · rw [if_neg c13] at H
                        have c13b0 : (((bt a0 x5_2) / 64) == 2) = false := beq_eq_false_iff_ne.mpr c13
                        have c13b1 : (((bt a0 x5_2) / 64) != 2) = true := bne_iff_ne.mpr c13
                        simp only [Option.some.injEq, Prod.mk.injEq] at H
                        obtain ⟨rfl, rfl, rfl⟩ := H
                        have p12 : 0 ≤ (x5_2 : Int) := of_decide_eq_true (by first | (with_reducible assumption) | assumption)
                        have q12 : x5_2 < (a0.size : Int) := of_decide_eq_true (by first | (with_reducible assumption) | assumption)
                        have hx12 := bt_at a0 x5_2
                        replace p12 := eq_true p12
                        replace q12 := eq_true q12
                        go_wp2
                        go_ret3
                        exact ⟨by first | rfl | (simp; done) | (simp [*]; done), by repeat (first | exact Drawn0.refl _ | apply Drawn0.step)⟩
                    · rw [if_neg c11] at H
                      exact absurd H (by simp)
                  · rw [if_neg c10] at H
                    exact absurd H (by simp)
                · rw [if_neg c9] at H
                  have c9b0 : decide (x5_2 < x3_2) = false := decide_eq_false c9
                  clear c9
                  replace H := Option.bind_eq_some_iff.mp H
                  obtain ⟨t103, A150, H⟩ := H
                  replace H : (if t103 = true then ((utf_least.f x3_2).bind fun t104 => (if x2_2 < t104 then (some (0, 0, 40)) else (some (x2_2, x3_2, 0)))) else (some (0, 0, 40))) = some (r1, r2, r3) := H
                  have A15 := Aside0.mk A150
                  clear A150
                  by_cases c16 : t103 = true
                  · subst c16
                    have H1 : ((utf_least.f x3_2).bind fun t104 => (if x2_2 < t104 then (some (0, 0, 40)) else (some (x2_2, x3_2, 0)))) = some (r1, r2, r3) := by rw [if_pos rfl] at H; exact H
                    clear H
                    have H := H1
                    clear H1
                    replace H := Option.bind_eq_some_iff.mp H
                    obtain ⟨t104, A170, H⟩ := H
                    replace H : (if x2_2 < t104 then (some (0, 0, 40)) else (some (x2_2, x3_2, 0))) = some (r1, r2, r3) := H
                    have A17 := Aside0.mk A170
                    clear A170
                    by_cases c18 : x2_2 < t104
                    · rw [if_pos c18] at H
                      have c18b0 : decide (x2_2 < t104) = true := decide_eq_true c18
                      clear c18
                      simp only [Option.some.injEq, Prod.mk.injEq] at H
                      obtain ⟨rfl, rfl, rfl⟩ := H
                      go_wp2_with (first | ((with_reducible refine gate_callee (f := 29) rfl ?_); refine goesL_ (some 41) rfl rfl Try.func29 (by kernel_rfl) rfl #[.int .i64 x2_2] rfl (by (try simp only [List.map_toArray, List.map_cons, List.map_nil]); first | done | rfl | (simp only [List.length_drop, List.length_take]; rfl)) ?_; (with_reducible refine (utf_is.calls x2_2 true _ A15.out).mono ?_); rintro e w' ⟨rfl, ⟨nd, rfl⟩⟩; refine ⟨_, rfl, ?_⟩) | (go_at_call 31; (with_reducible refine (utf_least.calls x3_2 t104 _ A17.out).mono ?_); rintro e w' ⟨rfl, ⟨nd, rfl⟩⟩))
                      go_ret3
                      exact ⟨by first | rfl | (simp; done) | (simp [*]; done), by repeat (first | exact Drawn0.refl _ | apply Drawn0.step)⟩
                    · rw [if_neg c18] at H
                      have c18b0 : decide (x2_2 < t104) = false := decide_eq_false c18
                      clear c18
                      simp only [Option.some.injEq, Prod.mk.injEq] at H
                      obtain ⟨rfl, rfl, rfl⟩ := H
                      go_wp2_with (first | ((with_reducible refine gate_callee (f := 29) rfl ?_); refine goesL_ (some 41) rfl rfl Try.func29 (by kernel_rfl) rfl #[.int .i64 x2_2] rfl (by (try simp only [List.map_toArray, List.map_cons, List.map_nil]); first | done | rfl | (simp only [List.length_drop, List.length_take]; rfl)) ?_; (with_reducible refine (utf_is.calls x2_2 true _ A15.out).mono ?_); rintro e w' ⟨rfl, ⟨nd, rfl⟩⟩; refine ⟨_, rfl, ?_⟩) | (go_at_call 31; (with_reducible refine (utf_least.calls x3_2 t104 _ A17.out).mono ?_); rintro e w' ⟨rfl, ⟨nd, rfl⟩⟩))
                      go_ret3
                      exact ⟨by first | rfl | (simp; done) | (simp [*]; done), by repeat (first | exact Drawn0.refl _ | apply Drawn0.step)⟩
                  · replace c16 := Bool.eq_false_iff.mpr c16
                    subst c16
                    have H1 : (some (0, 0, 40)) = some (r1, r2, r3) := by rw [if_neg (show ¬ (false = true) by decide)] at H; exact H
                    clear H
                    have H := H1
                    clear H1
                    simp only [Option.some.injEq, Prod.mk.injEq] at H
                    obtain ⟨rfl, rfl, rfl⟩ := H
                    go_wp2_with (first | ((with_reducible refine gate_callee (f := 29) rfl ?_); refine goesL_ (some 41) rfl rfl Try.func29 (by kernel_rfl) rfl #[.int .i64 x2_2] rfl (by (try simp only [List.map_toArray, List.map_cons, List.map_nil]); first | done | rfl | (simp only [List.length_drop, List.length_take]; rfl)) ?_; (with_reducible refine (utf_is.calls x2_2 false _ A15.out).mono ?_); rintro e w' ⟨rfl, ⟨nd, rfl⟩⟩; refine ⟨_, rfl, ?_⟩))
                    go_ret3
                    exact ⟨by first | rfl | (simp; done) | (simp [*]; done), by repeat (first | exact Drawn0.refl _ | apply Drawn0.step)⟩
    · rw [if_neg c3] at H
      exact absurd H (by simp)

-- NOT PRINTED: function 44 (abi_NoEscape)

-- NOT PRINTED: function 42 (strings_Builder_copyCheck)

-- NOT PRINTED: function 36 (strings_Builder_WriteString)

-- NOT PRINTED: function 37 (strings_Builder_String)

end Go.Proofs.Ythhpoogocpdbjaa.Px
