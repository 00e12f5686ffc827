-- Laid by wip/hprint.py: the kit's print of the translation, turned in places, beside contracts that this session wrote by hand; Lean checks all of it.
import Derived.Test.YthhpoogocpdbjaaPx0
import Derived.Test.YthhpoogocpdbjaaPx1
namespace Go.Proofs.Ythhpoogocpdbjaa.Px
open Go.RowKit Go.Proofs.YthhpoogocpdbjaaW.PrintWords Go.Proofs.YthhpoogocpdbjaaW.PrintLast Go.Proofs.YthhpoogocpdbjaaW.PrintMore
attribute [local go_sem] max2_int min2_int max_two min_two max_three min_three max_four min_four   -- for this text's walks alone
set_option linter.unusedVariables false
set_option linter.unusedSimpArgs false

/-! ### utf_Shown: function 21, by hand -/
theorem utf_Shown.low : ∀ b : Fin 256, bits BinOp.and IntKind.u8 (b.val : Int) 15 = ((b.val % 16 : Nat) : Int) := by decide +kernel
def utf_Shown.len : Value → Nat
  | .string t => t.size
  | _ => 0
def utf_Shown.dig : ByteArray := ⟨#[48, 49, 50, 51, 52, 53, 54, 55, 56, 57, 97, 98, 99, 100, 101, 102]⟩
def utf_Shown.hex (s : ByteArray) : ByteArray := (⟨#[92, 120]⟩ : ByteArray) ++ strOfNums [bt utf_Shown.dig (bt s 0 / 16), bt utf_Shown.dig (bt s 0 % 16)]
def utf_Shown.one (s : ByteArray) (c n e : Int) : ByteArray × Int := if e ≠ 0 ∨ c < 32 ∨ c = 127 then (utf_Shown.hex s, 1) else if c = 92 then ((⟨#[92, 92]⟩ : ByteArray), n) else (s.extract 0 n.toNat, n)
def utf_Shown.go : Nat → ByteArray → ByteArray → Option ByteArray
  | 0, _, _ => none
  | k + 1, s, acc => if s.toList = ([] : List UInt8) then some acc else (utf_First.f 40 s).bind fun r => if 1 ≤ (utf_Shown.one s r.1 r.2.1 r.2.2).2 ∧ (utf_Shown.one s r.1 r.2.1 r.2.2).2 ≤ (s.size : Int) ∧ acc.size + (utf_Shown.one s r.1 r.2.1 r.2.2).1.size ≤ 140737488355328 then utf_Shown.go k (s.extract (utf_Shown.one s r.1 r.2.1 r.2.2).2.toNat s.size) (acc ++ (utf_Shown.one s r.1 r.2.1 r.2.2).1) else none
def utf_Shown.f (a0 : ByteArray) : Option ByteArray := utf_Shown.go (a0.size + 1) a0 ⟨#[]⟩
theorem utf_Shown.hexed (s : ByteArray) (h : 0 < s.size) (i j : Nat) (hi : i = (s[0]'h).toNat / 16) (hj : j = (s[0]'h).toNat % 16) (pi : i < utf_Shown.dig.size) (pj : j < utf_Shown.dig.size) :
    (⟨#[92, 120]⟩ : ByteArray) ++ strOfNums [((utf_Shown.dig[i]'pi).toNat : Int), ((utf_Shown.dig[j]'pj).toNat : Int)] = utf_Shown.hex s := by
  have e0 : bt s 0 = ((s[0]'h).toNat : Int) := by
    rw [show (0 : Int) = ((0 : Nat) : Int) from rfl, Str.bt_L h]
    congr 2
    rw [List.getD_eq_getElem?_getD, List.getElem?_eq_getElem (by simpa using h), Option.getD_some]
    rfl
  have ei : bt utf_Shown.dig (bt s 0 / 16) = ((utf_Shown.dig[i]'pi).toNat : Int) := by
    rw [e0, show ((s[0]'h).toNat : Int) / 16 = (i : Int) by omega, Str.bt_L pi]
    congr 2
    rw [List.getD_eq_getElem?_getD, List.getElem?_eq_getElem (by simpa using pi), Option.getD_some]
    rfl
  have ej : bt utf_Shown.dig (bt s 0 % 16) = ((utf_Shown.dig[j]'pj).toNat : Int) := by
    rw [e0, show ((s[0]'h).toNat : Int) % 16 = (j : Int) by omega, Str.bt_L pj]
    congr 2
    rw [List.getD_eq_getElem?_getD, List.getElem?_eq_getElem (by simpa using pj), Option.getD_some]
    rfl
  unfold utf_Shown.hex
  rw [ei, ej]
theorem utf_Shown.size_pos {s : ByteArray} (h : ¬ s.toList = ([] : List UInt8)) : 0 < s.size := by
  rcases Nat.eq_zero_or_pos s.size with z | z
  · exact absurd (by rw [Str.toList_L]; exact List.length_eq_zero_iff.mp (by simpa using z)) h
  · exact z
set_option maxHeartbeats 4000000 in
set_option maxRecDepth 100000 in
theorem utf_Shown.calls (a0 : ByteArray) (r : ByteArray) (w : World) (h : utf_Shown.f a0 = some r) :
    Calls Try.prog 21 #[.string a0] w fun e w' => e = .returned (.string r) ∧ Below w.heap.size w w' := by
  have H0 := Lib.hid h
  clear h
  go_enter Try.func21, Try.ntmps21
  go_wp2
  go_loopw [0] (fun s wr => ∃ (s' acc : ByteArray) (k : Nat), s = .string s' ∧ Hid (utf_Shown.go k s' acc = some r) ∧ Aside0 (Lib.IsBuilder Bld.T 5 w.heap.size w.heap.size (Lib.byteCells acc.data.toList) wr) ∧ Aside0 (Below w.heap.size w wr)) (fun s _ => utf_Shown.len s)
  case atStart => exact ⟨a0, ⟨#[]⟩, a0.size + 1, rfl, H0, ⟨Lib.fresh_isBuilder _ _ w⟩, ⟨(Below.refl _ _).alloc (Nat.le_refl _) _⟩⟩
  case round =>
    obtain ⟨s, acc, k, rfl, HG, HI, HB⟩ := hrel
    have hg := HG.out
    cases k with
    | zero => exact absurd hg (by simp [utf_Shown.go])
    | succ k =>
    clear HG
    rw [utf_Shown.go] at hg
    by_cases c2 : s.toList = ([] : List UInt8)
    · have c2b0 : (s.toList == ([] : List UInt8)) = true := beq_iff_eq.mpr c2
      have c2b1 : (s.toList != ([] : List UInt8)) = false := bne_eq_false_iff_eq.mpr c2
      rw [if_pos c2] at hg
      injection hg with hg
      have HR := Lib.hid hg
      clear hg c2
      go_wp2_with fail
      refine (Try.Builder_String_any w.heap.size w.heap.size acc.data.toList wr HI.out HB.out.size).mono ?_
      rintro e w' ⟨rfl, hb⟩
      go_wp2
      go_ret
      exact ⟨by rw [← HR.out]; rfl, HB.out.trans hb⟩
    · rw [if_neg c2] at hg
      have hp : 0 < s.size := utf_Shown.size_pos c2
      have hpi : (0 : Int) < (s.size : Int) := by omega
      have c2b0 : (s.toList == ([] : List UInt8)) = false := beq_eq_false_iff_ne.mpr c2
      have c2b1 : (s.toList != ([] : List UInt8)) = true := bne_iff_ne.mpr c2
      replace hg := Option.bind_eq_some_iff.mp hg
      obtain ⟨⟨c1, n1, e1⟩, hf, hg⟩ := hg
      simp only at hg
      have H1 := Lib.hid hf
      have HG := Lib.hid hg
      clear hf hg c2
      go_wp2_with fail
      refine (utf_First.calls 40 s c1 n1 e1 _ H1.out).mono ?_
      rintro e w' ⟨rfl, ⟨nd, rfl⟩⟩
      go_upto_region 5 with (fail)
      go_cut [19] (fun v19 wc => v19 = .bool (decide (e1 ≠ 0 ∨ c1 < 32 ∨ c1 = 127)) ∧ wr.drewN nd = wc)
      case first =>
        by_cases d1 : e1 = 0
        · subst d1
          by_cases d2 : c1 < 32
          · have E := Lib.hid (show decide ((0 : Int) ≠ 0 ∨ c1 < 32 ∨ c1 = 127) = true from decide_eq_true (.inr (.inl d2)))
            go_wp2_with fail
            go_meet
            case rel => exact ⟨by rw [E.out], rfl⟩
          · by_cases d3 : c1 = 127
            · subst d3
              go_wp2_with fail
              go_meet
              case rel => exact ⟨rfl, rfl⟩
            · have E := Lib.hid (show decide ((0 : Int) ≠ 0 ∨ c1 < 32 ∨ c1 = 127) = false from decide_eq_false (by omega))
              have d3b : (c1 == 127) = false := beq_eq_false_iff_ne.mpr d3
              go_wp2_with fail
              go_meet
              case rel => exact ⟨by rw [E.out], rfl⟩
        · have E := Lib.hid (show decide (e1 ≠ 0 ∨ c1 < 32 ∨ c1 = 127) = true from decide_eq_true (.inl d1))
          have d1b : (e1 != 0) = true := bne_iff_ne.mpr d1
          go_wp2_with fail
          go_meet
          case rel => exact ⟨by rw [E.out], rfl⟩
      case rest =>
      obtain ⟨rfl, rfl⟩ := hcut
      go_upto_if 19 with (fail)
      have hg := HG.out
      unfold utf_Shown.one at hg
      clear HG
      by_cases hd : e1 ≠ 0 ∨ c1 < 32 ∨ c1 = 127
      · rw [decide_eq_true hd]
        simp only [if_pos hd] at hg
        by_cases hc : 1 ≤ (1 : Int) ∧ (1 : Int) ≤ (s.size : Int) ∧ acc.size + (utf_Shown.hex s).size ≤ 140737488355328
        case neg => rw [if_neg hc] at hg; cases hg
        rw [if_pos hc] at hg
        have HG := Lib.hid hg
        have hsz := Lib.hid hc.2.2
        clear hg hc hd
        have hb := (s[0]'hp).toNat_lt
        have q1 : (0 : Int) ≤ (((s[0]'hp).toNat : Int) / 16) := by omega
        have q2 : ((s[0]'hp).toNat : Int) / 16 < 16 := by omega
        have q5 := utf_Shown.low ⟨(s[0]'hp).toNat, hb⟩
        have q3 : (0 : Int) ≤ bits BinOp.and IntKind.u8 ((s[0]'hp).toNat : Int) 15 := by simp only at q5; omega
        have q4 : bits BinOp.and IntKind.u8 ((s[0]'hp).toNat : Int) 15 < 16 := by simp only at q5; omega
        have H5 := Lib.hid q5
        clear q5
        go_upto_region 7 with (fail)
        go_still_tail 8, (by kernel_rfl)
        change wpList _ _ _ _ _ (wr.drewN nd).drew
        go_wp2_with fail
        have key : ∀ (n : Nat) (x1 x2 : Int), (convert 48 9 (.slice (some ⟨wr.heap.size, 0, none⟩) 2 2)).run Try.prog ((wr.drewN n).alloc (Obj.cells #[.int .u8 x1, .int .u8 x2] 5)) = .ok (.string (strOfNums [x1, x2])) ((wr.drewN n).alloc (Obj.cells #[.int .u8 x1, .int .u8 x2] 5)) := fun n x1 x2 =>
          Go.Proofs.Ythhpoogocpdbjaa.Oct.Room.text (t := 5) (n := 2) (a := 0) (xs := [x1, x2]) ⟨_, heap_alloc_new (wr.drewN n) _, rfl, by decide, rfl⟩ 48 5 Try.underlying48 Try.underlying5 9 Try.underlying9 2 2 rfl
        rw [key]
        simp only [Result.andThen]
        rw [Oper.upon_value]
        go_wp2_with fail
        have hx := utf_Shown.hexed s hp ((s[0]'hp).toNat / 16) ((s[0]'hp).toNat % 16) rfl rfl (by show _ < 16; omega) (by show _ < 16; omega)
        unfold utf_Shown.dig at hx
        rw [hx]
        refine (Bld.write w.heap.size w.heap.size (Lib.byteCells acc.data.toList) (utf_Shown.hex s) _ (Bld.alloc (Bld.drewN HI.out (nd + 1)) _) (by rw [Lib.byteCells_length, ← Str.size_L]; exact hsz.out) (by have := HB.out.size; simp; omega)).mono ?_
        rintro e w' ⟨rfl, hi, hb⟩
        have h1s : (1 : Int) ≤ (s.size : Int) := by omega
        go_wp2
        exact ⟨⟨s.extract 1 s.size, acc ++ utf_Shown.hex s, k, rfl, HG, ⟨by rw [Str.app_L, Lib.byteCells_append]; exact hi⟩, ⟨((pw_below_drewN HB.out (nd + 1)).alloc HB.out.size _).trans hb⟩⟩, by show (s.extract 1 s.size).size < s.size; rw [Str.size_L, Str.post_L, List.length_drop, ← Str.size_L]; omega⟩
      · rw [decide_eq_false hd]
        simp only [if_neg hd] at hg
        clear hd
        by_cases h92 : c1 = 92
        · subst h92
          simp only [if_true] at hg
          by_cases hc : 1 ≤ n1 ∧ n1 ≤ (s.size : Int) ∧ acc.size + (⟨#[92, 92]⟩ : ByteArray).size ≤ 140737488355328
          case neg => rw [if_neg hc] at hg; cases hg
          rw [if_pos hc] at hg
          obtain ⟨k1, k2, k3⟩ := hc
          have k0 : 0 ≤ n1 := by omega
          have HG := Lib.hid hg
          have hsz := Lib.hid k3
          clear hg k3
          go_wp2_with fail
          refine (Bld.write w.heap.size w.heap.size (Lib.byteCells acc.data.toList) ⟨#[92, 92]⟩ _ (Bld.drewN HI.out _) (by rw [Lib.byteCells_length, ← Str.size_L]; exact hsz.out) (by have := HB.out.size; simp; omega)).mono ?_
          rintro e w' ⟨rfl, hi, hb⟩
          go_wp2
          exact ⟨⟨s.extract n1.toNat s.size, acc ++ ⟨#[92, 92]⟩, k, rfl, HG, ⟨by rw [Str.app_L, Lib.byteCells_append]; exact hi⟩, ⟨(pw_below_drewN HB.out _).trans hb⟩⟩, by show (s.extract n1.toNat s.size).size < s.size; rw [Str.size_L, Str.post_L, List.length_drop, ← Str.size_L]; omega⟩
        · simp only [if_neg h92] at hg
          have h92b : (c1 == 92) = false := beq_eq_false_iff_ne.mpr h92
          clear h92
          by_cases hc : 1 ≤ n1 ∧ n1 ≤ (s.size : Int) ∧ acc.size + (s.extract 0 n1.toNat).size ≤ 140737488355328
          case neg => rw [if_neg hc] at hg; cases hg
          rw [if_pos hc] at hg
          obtain ⟨k1, k2, k3⟩ := hc
          have k0 : 0 ≤ n1 := by omega
          have HG := Lib.hid hg
          have hsz := Lib.hid k3
          clear hg k3
          go_wp2_with fail
          refine (Bld.write w.heap.size w.heap.size (Lib.byteCells acc.data.toList) (s.extract 0 n1.toNat) _ (Bld.drewN HI.out _) (by rw [Lib.byteCells_length, ← Str.size_L]; exact hsz.out) (by have := HB.out.size; simp; omega)).mono ?_
          rintro e w' ⟨rfl, hi, hb⟩
          go_wp2
          exact ⟨⟨s.extract n1.toNat s.size, acc ++ s.extract 0 n1.toNat, k, rfl, HG, ⟨by rw [Str.app_L, Lib.byteCells_append]; exact hi⟩, ⟨(pw_below_drewN HB.out _).trans hb⟩⟩, by show (s.extract n1.toNat s.size).size < s.size; rw [Str.size_L, Str.post_L, List.length_drop, ← Str.size_L]; omega⟩

/-! ### gonglaw04_works: function 8 -/
def gonglaw04_works.f  : Option (Bool) := (utf_Bytes.f 8364).bind fun bt105 => (if bt105.1.toList = ([226, 130, 172] : List UInt8) then (if bt105.2 = 0 then ((utf_Shown.f (⟨#[97, 0, 255]⟩ : ByteArray)).bind fun t107 => (some (t107.toList == ([97, 92, 120, 48, 48, 92, 120, 102, 102] : List UInt8)))) else (some false)) else (some false))
set_option maxHeartbeats 8000000 in
set_option maxRecDepth 100000 in
theorem gonglaw04_works.calls  (r : Bool) (w : World) (h : gonglaw04_works.f  = some r) :
    Calls Try.prog 8 #[] w fun e w' => e = .returned (.bool r) ∧ Below w.heap.size w w' := by
  have HB := Aside0.mk (Below.refl w.heap.size w)
  have H : ((utf_Bytes.f 8364).bind fun bt105 => (if bt105.1.toList = ([226, 130, 172] : List UInt8) then (if bt105.2 = 0 then ((utf_Shown.f (⟨#[97, 0, 255]⟩ : ByteArray)).bind fun t107 => (some (t107.toList == ([97, 92, 120, 48, 48, 92, 120, 102, 102] : List UInt8)))) else (some false)) else (some false))) = some r := h
  clear h
  replace H := Option.bind_eq_some_iff.mp H
  obtain ⟨⟨t105, t106⟩, A10, H⟩ := H
  replace H : (if t105.toList = ([226, 130, 172] : List UInt8) then (if t106 = 0 then ((utf_Shown.f (⟨#[97, 0, 255]⟩ : ByteArray)).bind fun t107 => (some (t107.toList == ([97, 92, 120, 48, 48, 92, 120, 102, 102] : List UInt8)))) else (some false)) else (some false)) = some r := H
  have A1 := Aside0.mk A10
  clear A10
  by_cases c2 : t105.toList = ([226, 130, 172] : List UInt8)
  · rw [if_pos c2] at H
    have c2b0 : (t105.toList == ([226, 130, 172] : List UInt8)) = true := beq_iff_eq.mpr c2
    have c2b1 : (t105.toList != ([226, 130, 172] : List UInt8)) = false := bne_eq_false_iff_eq.mpr c2
    clear c2
    by_cases c3 : t106 = 0
    · rw [if_pos c3] at H
      have c3b0 : (t106 == 0) = true := beq_iff_eq.mpr c3
      have c3b1 : (t106 != 0) = false := bne_eq_false_iff_eq.mpr c3
      clear c3
      replace H := Option.bind_eq_some_iff.mp H
      obtain ⟨t107, A40, H⟩ := H
      replace H : (some (t107.toList == ([97, 92, 120, 48, 48, 92, 120, 102, 102] : List UInt8))) = some r := H
      have A4 := Aside0.mk A40
      clear A40
      obtain rfl := Option.some.inj H
      go_enter Try.func8, Try.ntmps8
      go_wp2_with (first | ((with_reducible refine gate_callee (f := 9) rfl ?_); refine goesL_ (some 4) rfl rfl Try.func9 (by kernel_rfl) rfl #[.int .i64 8364] rfl (by (try simp only [List.map_toArray, List.map_cons, List.map_nil]); first | done | rfl | (simp only [List.length_drop, List.length_take]; rfl)) ?_; (with_reducible refine (utf_Bytes.calls 8364 t105 t106 _ A1.out).mono ?_); rintro e w5 ⟨rfl, hb⟩; refine ⟨_, rfl, ?_⟩; have n0_ := Aside0.mk (below_step (by repeat (first | (with_reducible first | exact HB.out | apply below_alloc | apply pw_below_drewN | apply below_drew1) | exact HB.out)) hb); clear HB; have HB := n0_; clear n0_; (try clear hb); (try clear hb2); (try clear hk); (try clear hi)) | (go_at_call 21; (with_reducible refine (utf_Shown.calls (⟨#[97, 0, 255]⟩ : ByteArray) t107 _ A4.out).mono ?_); rintro e w6 ⟨rfl, hb⟩; have n0_ := Aside0.mk (below_step (by repeat (first | (with_reducible first | exact HB.out | apply below_alloc | apply pw_below_drewN | apply below_drew1) | exact HB.out)) hb); clear HB; have HB := n0_; clear n0_; (try clear hb); (try clear hb2); (try clear hk); (try clear hi)))
      go_ret
      exact ⟨by first | rfl | (simp [errW_none, errW_some] <;> rfl) | (simp [*, errW_none, errW_some] <;> rfl), by repeat (first | (with_reducible first | exact HB.out | apply below_alloc | apply pw_below_drewN | apply below_drew1) | exact HB.out)⟩
    · rw [if_neg c3] at H
      have c3b0 : (t106 == 0) = false := beq_eq_false_iff_ne.mpr c3
      have c3b1 : (t106 != 0) = true := bne_iff_ne.mpr c3
      obtain rfl := Option.some.inj H
      go_enter Try.func8, Try.ntmps8
      go_wp2_with (first | ((with_reducible refine gate_callee (f := 9) rfl ?_); refine goesL_ (some 4) rfl rfl Try.func9 (by kernel_rfl) rfl #[.int .i64 8364] rfl (by (try simp only [List.map_toArray, List.map_cons, List.map_nil]); first | done | rfl | (simp only [List.length_drop, List.length_take]; rfl)) ?_; (with_reducible refine (utf_Bytes.calls 8364 t105 t106 _ A1.out).mono ?_); rintro e w7 ⟨rfl, hb⟩; refine ⟨_, rfl, ?_⟩; have n0_ := Aside0.mk (below_step (by repeat (first | (with_reducible first | exact HB.out | apply below_alloc | apply pw_below_drewN | apply below_drew1) | exact HB.out)) hb); clear HB; have HB := n0_; clear n0_; (try clear hb); (try clear hb2); (try clear hk); (try clear hi)))
      go_ret
      exact ⟨by first | rfl | (simp [errW_none, errW_some] <;> rfl) | (simp [*, errW_none, errW_some] <;> rfl), by repeat (first | (with_reducible first | exact HB.out | apply below_alloc | apply pw_below_drewN | apply below_drew1) | exact HB.out)⟩
  · rw [if_neg c2] at H
    have c2b0 : (t105.toList == ([226, 130, 172] : List UInt8)) = false := beq_eq_false_iff_ne.mpr c2
    have c2b1 : (t105.toList != ([226, 130, 172] : List UInt8)) = true := bne_iff_ne.mpr c2
    obtain rfl := Option.some.inj H
    go_enter Try.func8, Try.ntmps8
    go_wp2_with (first | ((with_reducible refine gate_callee (f := 9) rfl ?_); refine goesL_ (some 4) rfl rfl Try.func9 (by kernel_rfl) rfl #[.int .i64 8364] rfl (by (try simp only [List.map_toArray, List.map_cons, List.map_nil]); first | done | rfl | (simp only [List.length_drop, List.length_take]; rfl)) ?_; (with_reducible refine (utf_Bytes.calls 8364 t105 t106 _ A1.out).mono ?_); rintro e w8 ⟨rfl, hb⟩; refine ⟨_, rfl, ?_⟩; have n0_ := Aside0.mk (below_step (by repeat (first | (with_reducible first | exact HB.out | apply below_alloc | apply pw_below_drewN | apply below_drew1) | exact HB.out)) hb); clear HB; have HB := n0_; clear n0_; (try clear hb); (try clear hb2); (try clear hk); (try clear hi)))
    go_ret
    exact ⟨by first | rfl | (simp [errW_none, errW_some] <;> rfl) | (simp [*, errW_none, errW_some] <;> rfl), by repeat (first | (with_reducible first | exact HB.out | apply below_alloc | apply pw_below_drewN | apply below_drew1) | exact HB.out)⟩

/-! ### gongbook_Below: function 26 -/
def gongbook_Below.f (a0 : Int) (a1 : Int) : Option (Int) := if a1 = 0 then (none) else (some (Int.tmod (wrap64 ((Int.tmod a0 a1) + a1)) a1))
set_option maxHeartbeats 8000000 in
set_option maxRecDepth 100000 in
theorem gongbook_Below.calls (a0 : Int) (a1 : Int) (r : Int) (w : World) (h : gongbook_Below.f a0 a1 = some r) :
    Calls Try.prog 26 #[.int .i64 a0, .int .i64 a1] w fun e w' => e = .returned (.int .i64 r) ∧ Drawn0 w w' := by
  have H : (if a1 = 0 then (none) else (some (Int.tmod (wrap64 ((Int.tmod a0 a1) + a1)) a1))) = some r := h
  clear h
  by_cases c3 : a1 = 0
  · rw [if_pos c3] at H
    exact absurd H (by simp)
  · rw [if_neg c3] at H
    have c3b0 : (a1 == 0) = false := beq_eq_false_iff_ne.mpr c3
    have c3b1 : (a1 != 0) = true := bne_iff_ne.mpr c3
    obtain rfl := Option.some.inj H
    go_enter Try.func26, Try.ntmps26
    go_wp2
    go_ret
    exact ⟨by first | rfl | (simp; done) | (simp [*]; done), by repeat (first | exact Drawn0.refl _ | apply Drawn0.step)⟩

/-! ### gonglaw04_char: function 10 -/
def gonglaw04_char.f (a0 : Int) : Option (Int) := (gongbook_Below.f a0 1112064).bind fun t108 => (if t108 ≥ 55296 then (some (wrap64 (t108 + 2048))) else (some t108))
set_option maxHeartbeats 8000000 in
set_option maxRecDepth 100000 in
theorem gonglaw04_char.calls (a0 : Int) (r : Int) (w : World) (h : gonglaw04_char.f a0 = some r) :
    Calls Try.prog 10 #[.int .i64 a0] w fun e w' => e = .returned (.int .i64 r) ∧ Drawn0 w w' := by
  have H : ((gongbook_Below.f a0 1112064).bind fun t108 => (if t108 ≥ 55296 then (some (wrap64 (t108 + 2048))) else (some t108))) = some r := h
  clear h
  replace H := Option.bind_eq_some_iff.mp H
  obtain ⟨t108, A20, H⟩ := H
  replace H : (if t108 ≥ 55296 then (some (wrap64 (t108 + 2048))) else (some t108)) = some r := H
  have A2 := Aside0.mk A20
  clear A20
  by_cases c3 : t108 ≥ 55296
  · rw [if_pos c3] at H
    have c3b0 : decide (55296 ≤ t108) = true := decide_eq_true c3
    clear c3
    obtain rfl := Option.some.inj H
    go_enter Try.func10, Try.ntmps10
    go_wp2_with (first | ((with_reducible refine gate_callee (f := 26) rfl ?_); refine goesL_ (some 5) rfl rfl Try.func26 (by kernel_rfl) rfl #[.int .i64 a0, .int .i64 1112064] rfl (by (try simp only [List.map_toArray, List.map_cons, List.map_nil]); first | done | rfl | (simp only [List.length_drop, List.length_take]; rfl)) ?_; (with_reducible refine (gongbook_Below.calls a0 1112064 t108 _ A2.out).mono ?_); rintro e w' ⟨rfl, ⟨nd, rfl⟩⟩; refine ⟨_, rfl, ?_⟩))
    go_ret
    exact ⟨by first | rfl | (simp; done) | (simp [*]; done), by repeat (first | exact Drawn0.refl _ | apply Drawn0.step)⟩
  · rw [if_neg c3] at H
    have c3b0 : decide (55296 ≤ t108) = false := decide_eq_false c3
    clear c3
    obtain rfl := Option.some.inj H
    go_enter Try.func10, Try.ntmps10
    go_wp2_with (first | ((with_reducible refine gate_callee (f := 26) rfl ?_); refine goesL_ (some 5) rfl rfl Try.func26 (by kernel_rfl) rfl #[.int .i64 a0, .int .i64 1112064] rfl (by (try simp only [List.map_toArray, List.map_cons, List.map_nil]); first | done | rfl | (simp only [List.length_drop, List.length_take]; rfl)) ?_; (with_reducible refine (gongbook_Below.calls a0 1112064 t108 _ A2.out).mono ?_); rintro e w' ⟨rfl, ⟨nd, rfl⟩⟩; refine ⟨_, rfl, ?_⟩))
    go_ret
    exact ⟨by first | rfl | (simp; done) | (simp [*]; done), by repeat (first | exact Drawn0.refl _ | apply Drawn0.step)⟩

/-! ### utf_Chars: function 11 -/
def utf_Chars.l0 : Nat → ByteArray → List Int → Option (List Int × Int)
  | 0, _, _ => none
  | k + 1, x0, x4 => if x0.toList = ([] : List UInt8) then (some (x4, 0)) else ((utf_First.f k x0).bind fun bt109 => (if bt109.2.2 = 0 then (if x4.length < 17592186044416 then (if 0 ≤ bt109.2.1 then (if bt109.2.1 ≤ (x0.size : Int) then (utf_Chars.l0 k (x0.extract (bt109.2.1 : Int).toNat x0.size) (x4 ++ [bt109.1])) else (none)) else (none)) else (none)) else (some (([] : List Int), bt109.2.2))))
def utf_Chars.f (k : Nat) (a0 : ByteArray) : Option (List Int × Int) := utf_Chars.l0 k a0 ([] : List Int)
theorem utf_Chars.mono_l : ∀ k, (∀ y0 y1, LeO (utf_Chars.l0 k y0 y1) (utf_Chars.l0 (k + 1) y0 y1))
  | 0 => fun _ _ r h => by simp [utf_Chars.l0] at h
  | k + 1 => by
    have ih0 := utf_Chars.mono_l k
    · intro y0 y1
      unfold utf_Chars.l0
      repeat' first
      | (with_reducible exact ih0 _ _)
      | (with_reducible exact utf_First.mono _ _)
      | (with_reducible exact LeO.refl _)
      | (with_reducible exact LeO.none _)
      | (with_reducible refine LeO.ite ?_ ?_)
      | (with_reducible refine LeO.bind ?_ (fun _ => ?_))
      | exact ih0 _ _
      | exact utf_First.mono _ _
      | exact LeO.none _
      | refine LeO.ite ?_ ?_
      | refine LeO.bind ?_ (fun _ => ?_)
theorem utf_Chars.mono : ∀ a0 k, LeO (utf_Chars.f k a0) (utf_Chars.f (k + 1) a0) := by
  intro a0 k
  have ih0 := utf_Chars.mono_l k
  unfold utf_Chars.f
  repeat' first
      | (with_reducible exact ih0 _ _)
      | (with_reducible exact utf_First.mono _ _)
      | (with_reducible exact LeO.refl _)
      | (with_reducible exact LeO.none _)
      | (with_reducible refine LeO.ite ?_ ?_)
      | (with_reducible refine LeO.bind ?_ (fun _ => ?_))
      | exact ih0 _ _
      | exact utf_First.mono _ _
      | exact LeO.none _
      | refine LeO.ite ?_ ?_
      | refine LeO.bind ?_ (fun _ => ?_)
set_option maxHeartbeats 8000000 in
set_option maxRecDepth 100000 in
theorem utf_Chars.calls (k : Nat) (a0 : ByteArray) (r1 : List Int) (r2 : Int) (w : World) (h : utf_Chars.f k a0 = some (r1, r2)) :
    Calls Try.prog 11 #[.string a0] w fun e w' => ∃ v0_ : Value, e = .returned (.tuple #[v0_, .int .i64 r2]) ∧ Kd.R (Kd.int .i64) 3 w' w.heap.size (fun _ => True) v0_ r1 ∧ Below w.heap.size w w' := by
  have HB := Aside0.mk (Below.refl w.heap.size w)
  have H : (utf_Chars.l0 k a0 ([] : List Int)) = some (r1, r2) := h
  clear h
  have H' := Aside0.mk H
  clear H
  go_enter Try.func11, Try.ntmps11
  go_wp2
  go_loopg [0, 4] k (fun kq v0 v4 w' => ∃ (x0_1 : ByteArray) (x4_1 : List Int), v0 = .string x0_1 ∧ Aside0 (utf_Chars.l0 kq x0_1 x4_1 = some (r1, r2)) ∧ Aside0 (kq ≤ k) ∧ Aside0 (Kd.R (Kd.int .i64) 3 w' w.heap.size (fun _ => True) v4 x4_1) ∧ Aside0 (Below w.heap.size w w'))
  case atStart => exact ⟨(a0), (([] : List Int)), (by first | rfl | (simp; done) | (simp [*]; done)), H', ⟨Nat.le_refl _⟩, ⟨by first | exact Kd.R_nil _ _ _ _ _ | exact Kd.N_nil _ _ _ _ _ | exact Kd.V_nil _ _ _ _ _ | exact Kd.Q_nil _ _ _ _ _ | exact Kd.S_nil _ _ _ _ _⟩, ⟨by repeat (first | (with_reducible first | exact HB.out | apply below_alloc | apply pw_below_drewN | apply below_drew1) | exact HB.out)⟩⟩
  case round =>
    clear H'
    try clear c1
    obtain ⟨x0_1, x4_1, rfl, HA, HK1, HO_4, HB⟩ := hrel
    cases gk with
    | zero => exact absurd HA.out (by simp [utf_Chars.l0])
    | succ k1 =>
      have H := HA.out
      clear HA
      simp only [utf_Chars.l0] at H
      by_cases c2 : x0_1.toList = ([] : List UInt8)
      · rw [if_pos c2] at H
        have c2b0 : (x0_1.toList == ([] : List UInt8)) = true := beq_iff_eq.mpr c2
        have c2b1 : (x0_1.toList != ([] : List UInt8)) = false := bne_eq_false_iff_eq.mpr c2
        clear c2
        simp only [Option.some.injEq, Prod.mk.injEq] at H
        obtain ⟨rfl, rfl⟩ := H
        go_wp2
        go_ret2
        exact ⟨_, by first | rfl | (simp [errW_none, errW_some] <;> rfl) | (simp [*, errW_none, errW_some] <;> rfl), by (with_reducible repeat (first | apply Kd.R_alloc | apply Kd.R_drewN | apply Kd.R_drew)); exact HO_4.out, by repeat (first | (with_reducible first | exact HB.out | apply below_alloc | apply pw_below_drewN | apply below_drew1) | exact HB.out)⟩
      · rw [if_neg c2] at H
        have c2b0 : (x0_1.toList == ([] : List UInt8)) = false := beq_eq_false_iff_ne.mpr c2
        have c2b1 : (x0_1.toList != ([] : List UInt8)) = true := bne_iff_ne.mpr c2
        replace H := Option.bind_eq_some_iff.mp H
        obtain ⟨⟨t109, t110, t111⟩, A30, H⟩ := H
        replace H : (if t111 = 0 then (if x4_1.length < 17592186044416 then (if 0 ≤ t110 then (if t110 ≤ (x0_1.size : Int) then (utf_Chars.l0 k1 (x0_1.extract (t110 : Int).toNat x0_1.size) (x4_1 ++ [t109])) else (none)) else (none)) else (none)) else (some (([] : List Int), t111))) = some (r1, r2) := H
        have A3 := Aside0.mk A30
        clear A30
        by_cases c4 : t111 = 0
        · rw [if_pos c4] at H
          have c4b0 : (t111 == 0) = true := beq_iff_eq.mpr c4
          have c4b1 : (t111 != 0) = false := bne_eq_false_iff_eq.mpr c4
          clear c4
          by_cases c5 : x4_1.length < 17592186044416
          · rw [if_pos c5] at H
            have LMc5 := Aside0.mk c5
            clear c5
            obtain ⟨y112, hy112⟩ : ∃ y_ : List Int, y_ = (x4_1 ++ [t109]) := ⟨_, rfl⟩
            replace H : (if 0 ≤ t110 then (if t110 ≤ (x0_1.size : Int) then (utf_Chars.l0 k1 (x0_1.extract (t110 : Int).toNat x0_1.size) y112) else (none)) else (none)) = some (r1, r2) := by first | (rw [hy112]; with_reducible exact H) | (have H2_ := (Option.bind_some _ _).symm.trans H; rw [hy112]; with_reducible exact H2_) | (have H2_ := (Option.bind_some _ _).symm.trans H; with_reducible exact H2_) | with_reducible exact H | (rw [hy112]; exact H) | exact H
            have Ny112 := Aside0.mk hy112
            clear hy112
            by_cases c6 : 0 ≤ t110
            · rw [if_pos c6] at H
              have c6b0 := eq_true c6
              have c6b1 : decide (0 ≤ t110) = true := decide_eq_true c6
              clear c6
              by_cases c7 : t110 ≤ (x0_1.size : Int)
              · rw [if_pos c7] at H
                have c7b0 := eq_true c7
                have c7b1 : decide (t110 ≤ (x0_1.size : Int)) = true := decide_eq_true c7
                clear c7
                have H' := Aside0.mk H
                clear H
                go_wp2_with (first | ((with_reducible refine gate_callee (f := 14) rfl ?_); refine goesL_ (some 12) rfl rfl Try.func14 (by kernel_rfl) rfl #[.string x0_1] rfl (by (try simp only [List.map_toArray, List.map_cons, List.map_nil]); first | done | rfl | (simp only [List.length_drop, List.length_take]; rfl)) ?_; (with_reducible refine (utf_First.calls k1 x0_1 t109 t110 t111 _ A3.out).mono ?_); rintro e w' ⟨rfl, ⟨nd, rfl⟩⟩; refine ⟨_, rfl, ?_⟩) | ((with_reducible refine gate_builtin (b := .append) (xs := #[.tmp 19, .tmp 21]) rfl ?_); at_builtin; refine Kd.R_append (Kd.int .i64) (w0 := w) w.heap.size rfl (.tmp 19) (.tmp 21) 22 3 (.int .i64 0) 8 rfl Try.underlying22 info3 rfl (by decide) (by omega) u4 x4_1 t109 [.int .i64 t109] (fun _ => True) (fun _ => False) rfl rfl ?aP (fun _ hk => hk.elim) ?aF ?aO ?aB ?aS ?aL ?_; (case aP => exact rfl); (case aB => exact (by repeat (first | (with_reducible first | exact HB.out | apply below_alloc | apply pw_below_drewN | apply below_drew1) | exact HB.out))); (case aF => exact (fun _ _ => trivial)); (case aO => exact (by (with_reducible repeat (first | apply Kd.R_alloc | apply Kd.R_drewN | apply Kd.R_drew)); exact HO_4.out)); (case aS => exact (below_size (by repeat (first | (with_reducible first | exact HB.out | apply below_alloc | apply pw_below_drewN | apply below_drew1) | exact HB.out)))); (case aL => have := LMc5.out; omega); intro v113 w8 ho hb hg hat; rw [← Ny112.out] at ho; have n0_ := Aside0.mk (hb); have n1_ := Aside0.mk (ho); clear HB; clear HO_4; have HB := n0_; have HO114 := n1_; clear n0_ n1_; clear ho hb hg hat))
                go_roundg k1
                case measure => have := HK1.out; omega
                case rel => exact ⟨(x0_1.extract (t110 : Int).toNat x0_1.size), (y112), (by first | rfl | (simp; done) | (simp [*]; done)), H', ⟨by have := HK1.out; omega⟩, ⟨by (with_reducible repeat (first | apply Kd.R_alloc | apply Kd.R_drewN | apply Kd.R_drew)); exact HO114.out⟩, ⟨by repeat (first | (with_reducible first | exact HB.out | apply below_alloc | apply pw_below_drewN | apply below_drew1) | exact HB.out)⟩⟩
              · rw [if_neg c7] at H
                exact absurd H (by simp)
            · rw [if_neg c6] at H
              exact absurd H (by simp)
          · rw [if_neg c5] at H
            exact absurd H (by simp)
        · rw [if_neg c4] at H
          have c4b0 : (t111 == 0) = false := beq_eq_false_iff_ne.mpr c4
          have c4b1 : (t111 != 0) = true := bne_iff_ne.mpr c4
          simp only [Option.some.injEq, Prod.mk.injEq] at H
          obtain ⟨rfl, rfl⟩ := H
          go_wp2_with (first | ((with_reducible refine gate_callee (f := 14) rfl ?_); refine goesL_ (some 12) rfl rfl Try.func14 (by kernel_rfl) rfl #[.string x0_1] rfl (by (try simp only [List.map_toArray, List.map_cons, List.map_nil]); first | done | rfl | (simp only [List.length_drop, List.length_take]; rfl)) ?_; (with_reducible refine (utf_First.calls k1 x0_1 t109 t110 t111 _ A3.out).mono ?_); rintro e w' ⟨rfl, ⟨nd, rfl⟩⟩; refine ⟨_, rfl, ?_⟩))
          go_ret2
          exact ⟨_, by first | rfl | (simp [errW_none, errW_some] <;> rfl) | (simp [*, errW_none, errW_some] <;> rfl), by first | exact Kd.R_nil _ _ _ _ _ | exact Kd.N_nil _ _ _ _ _ | exact Kd.V_nil _ _ _ _ _ | exact Kd.Q_nil _ _ _ _ _ | exact Kd.S_nil _ _ _ _ _, by repeat (first | (with_reducible first | exact HB.out | apply below_alloc | apply pw_below_drewN | apply below_drew1) | exact HB.out)⟩

/-! ### utf_Check: function 12 -/
def utf_Check.f (k : Nat) (a0 : ByteArray) : Option (Int) := (utf_Chars.f k a0).bind fun bt115 => (some bt115.2)
theorem utf_Check.mono : ∀ a0 k, LeO (utf_Check.f k a0) (utf_Check.f (k + 1) a0) := by
  intro a0 k
  unfold utf_Check.f
  repeat' first
      | (with_reducible exact utf_Chars.mono _ _)
      | (with_reducible exact LeO.refl _)
      | (with_reducible exact LeO.none _)
      | (with_reducible refine LeO.ite ?_ ?_)
      | (with_reducible refine LeO.bind ?_ (fun _ => ?_))
      | exact utf_Chars.mono _ _
      | exact LeO.none _
      | refine LeO.ite ?_ ?_
      | refine LeO.bind ?_ (fun _ => ?_)
set_option maxHeartbeats 8000000 in
set_option maxRecDepth 100000 in
theorem utf_Check.calls (k : Nat) (a0 : ByteArray) (r : Int) (w : World) (h : utf_Check.f k a0 = some r) :
    Calls Try.prog 12 #[.string a0] w fun e w' => e = .returned (.int .i64 r) ∧ Below w.heap.size w w' := by
  have HB := Aside0.mk (Below.refl w.heap.size w)
  have H : ((utf_Chars.f k a0).bind fun bt115 => (some bt115.2)) = some r := h
  clear h
  replace H := Option.bind_eq_some_iff.mp H
  obtain ⟨⟨t115, t116⟩, A20, H⟩ := H
  replace H : (some t116) = some r := H
  have A2 := Aside0.mk A20
  clear A20
  obtain rfl := Option.some.inj H
  go_enter Try.func12, Try.ntmps12
  go_wp2_with (first | ((with_reducible refine gate_callee (f := 11) rfl ?_); refine goesL_ (some 7) rfl rfl Try.func11 (by kernel_rfl) rfl #[.string a0] rfl (by (try simp only [List.map_toArray, List.map_cons, List.map_nil]); first | done | rfl | (simp only [List.length_drop, List.length_take]; rfl)) ?_; (with_reducible refine (utf_Chars.calls k a0 t115 t116 _ A2.out).mono ?_); rintro e w3 ⟨v117, rfl, ho0, hb⟩; refine ⟨_, rfl, ?_⟩; have n0_ := Aside0.mk (Kd.R_lower ho0 (below_size (by repeat (first | (with_reducible first | exact HB.out | apply below_alloc | apply pw_below_drewN | apply below_drew1) | exact HB.out)))); have n1_ := Aside0.mk (below_step (by repeat (first | (with_reducible first | exact HB.out | apply below_alloc | apply pw_below_drewN | apply below_drew1) | exact HB.out)) hb); clear HB; have HO118 := n0_; have HB := n1_; clear n0_ n1_; (try clear hb); (try clear hb2); (try clear hk); (try clear hi); (try clear ho0)))
  go_ret
  exact ⟨by first | rfl | (simp [errW_none, errW_some] <;> rfl) | (simp [*, errW_none, errW_some] <;> rfl), by repeat (first | (with_reducible first | exact HB.out | apply below_alloc | apply pw_below_drewN | apply below_drew1) | exact HB.out)⟩

/-! ### gongbook_SameInts: function 13 -/
def gongbook_SameInts.l0 : Nat → List Int → List Int → Bool → Int → Option (Bool)
  | 0, _, _, _, _ => none
  | k + 1, x0, x1, x5, x6 => if x5 = true then (if x6 < (x0.length : Int) then (if 0 ≤ x6 then (if x6 < (x1.length : Int) then (gongbook_SameInts.l0 k x0 x1 ((rd x0 x6) == (rd x1 x6)) (wrap64 (x6 + 1))) else (none)) else (none)) else (some x5)) else (some x5)
def gongbook_SameInts.f (k : Nat) (l0 : List Int) (l1 : List Int) : Option (Bool) := gongbook_SameInts.l0 k l0 l1 ((l0.length : Int) == (l1.length : Int)) 0
theorem gongbook_SameInts.mono_l : ∀ k, (∀ y0 y1 y2 y3, LeO (gongbook_SameInts.l0 k y0 y1 y2 y3) (gongbook_SameInts.l0 (k + 1) y0 y1 y2 y3))
  | 0 => fun _ _ _ _ r h => by simp [gongbook_SameInts.l0] at h
  | k + 1 => by
    have ih0 := gongbook_SameInts.mono_l k
    · intro y0 y1 y2 y3
      unfold gongbook_SameInts.l0
      repeat' first
      | (with_reducible exact ih0 _ _ _ _)
      | (with_reducible exact LeO.refl _)
      | (with_reducible exact LeO.none _)
      | (with_reducible refine LeO.ite ?_ ?_)
      | (with_reducible refine LeO.bind ?_ (fun _ => ?_))
      | exact ih0 _ _ _ _
      | exact LeO.none _
      | refine LeO.ite ?_ ?_
      | refine LeO.bind ?_ (fun _ => ?_)
theorem gongbook_SameInts.mono : ∀ a0 a1 k, LeO (gongbook_SameInts.f k a0 a1) (gongbook_SameInts.f (k + 1) a0 a1) := by
  intro a0 a1 k
  have ih0 := gongbook_SameInts.mono_l k
  unfold gongbook_SameInts.f
  repeat' first
      | (with_reducible exact ih0 _ _ _ _)
      | (with_reducible exact LeO.refl _)
      | (with_reducible exact LeO.none _)
      | (with_reducible refine LeO.ite ?_ ?_)
      | (with_reducible refine LeO.bind ?_ (fun _ => ?_))
      | exact ih0 _ _ _ _
      | exact LeO.none _
      | refine LeO.ite ?_ ?_
      | refine LeO.bind ?_ (fun _ => ?_)
set_option maxHeartbeats 8000000 in
set_option maxRecDepth 100000 in
theorem gongbook_SameInts.calls (k : Nat) (A0 : Option Addr) (c0 : Nat) (l0 : List Int) (A1 : Option Addr) (c1 : Nat) (l1 : List Int) (r : Bool) (w : World) (hr0 : Kd.C (Kd.int .i64) w A0 l0.length l0) (hc0 : l0.length ≤ c0) (hr1 : Kd.C (Kd.int .i64) w A1 l1.length l1) (hc1 : l1.length ≤ c1) (h : gongbook_SameInts.f k l0 l1 = some r) :
    Calls Try.prog 13 #[.slice A0 l0.length c0, .slice A1 l1.length c1] w fun e w' => e = .returned (.bool r) ∧ Drawn0 w w' := by
  have HR0 := Aside0.mk hr0
  have HC0 := Aside0.mk hc0
  clear hr0 hc0
  have HR1 := Aside0.mk hr1
  have HC1 := Aside0.mk hc1
  clear hr1 hc1
  have H : (gongbook_SameInts.l0 k l0 l1 ((l0.length : Int) == (l1.length : Int)) 0) = some r := h
  clear h
  have H' := Aside0.mk H
  clear H
  go_enter Try.func13, Try.ntmps13
  go_wp2
  repeat (go_quiet (fail); try go_wp2)
  go_loopg [5, 6] k (fun kq v5 v6 w' => ∃ (x5_1 : Bool) (x6_1 : Int), v5 = .bool x5_1 ∧ v6 = .int .i64 x6_1 ∧ Aside0 (gongbook_SameInts.l0 kq l0 l1 x5_1 x6_1 = some r) ∧ Aside0 (kq ≤ k) ∧ Drawn0 w w')
  case atStart => exact ⟨(((l0.length : Int) == (l1.length : Int))), (0), (by first | rfl | (simp; done) | (simp [*]; done)), (by first | rfl | (simp; done) | (simp [*]; done)), H', ⟨Nat.le_refl _⟩, by repeat (first | exact Drawn0.refl _ | apply Drawn0.step)⟩
  case round =>
    clear H'
    try clear c1
    try clear p2
    obtain ⟨x5_1, x6_1, rfl, rfl, HA, HK1, ⟨m1, rfl⟩⟩ := hrel
    cases gk with
    | zero => exact absurd HA.out (by simp [gongbook_SameInts.l0])
    | succ k1 =>
      have H := HA.out
      clear HA
      simp only [gongbook_SameInts.l0] at H
      by_cases c3 : x5_1 = true
      · subst c3
        have H1 : (if x6_1 < (l0.length : Int) then (if 0 ≤ x6_1 then (if x6_1 < (l1.length : Int) then (gongbook_SameInts.l0 k1 l0 l1 ((rd l0 x6_1) == (rd l1 x6_1)) (wrap64 (x6_1 + 1))) else (none)) else (none)) else (some true)) = some r := by rw [if_pos rfl] at H; exact H
        clear H
        have H := H1
        clear H1
        by_cases c4 : x6_1 < (l0.length : Int)
        · rw [if_pos c4] at H
          have c4b0 : decide (x6_1 < (l0.length : Int)) = true := decide_eq_true c4
          clear c4
          by_cases c5 : 0 ≤ x6_1
          · rw [if_pos c5] at H
            have c5b0 : decide (0 ≤ x6_1) = true := decide_eq_true c5
            clear c5
            by_cases c6 : x6_1 < (l1.length : Int)
            · rw [if_pos c6] at H
              have c6b0 : decide (x6_1 < (l1.length : Int)) = true := decide_eq_true c6
              clear c6
              have H' := Aside0.mk H
              clear H
              have p119 : 0 ≤ (x6_1 : Int) := of_decide_eq_true (by first | (with_reducible assumption) | assumption)
              have q119 : x6_1 < (l0.length : Int) := of_decide_eq_true (by first | (with_reducible assumption) | assumption)
              obtain ⟨ad119, e119, hx119_0⟩ := Kd.at_int HR0.out x6_1 p119 q119
              cases e119
              replace p119 := eq_true p119
              replace q119 := eq_true q119
              have p120 : 0 ≤ (x6_1 : Int) := of_decide_eq_true (by first | (with_reducible assumption) | assumption)
              have q120 : x6_1 < (l1.length : Int) := of_decide_eq_true (by first | (with_reducible assumption) | assumption)
              obtain ⟨ad120, e120, hx120_0⟩ := Kd.at_int HR1.out x6_1 p120 q120
              cases e120
              replace p120 := eq_true p120
              replace q120 := eq_true q120
              go_wp2
              repeat (go_quiet (fail); try go_wp2)
              go_roundg k1
              case measure => have := HK1.out; omega
              case rel => exact ⟨(((rd l0 x6_1) == (rd l1 x6_1))), (wrap64 (x6_1 + 1)), (by first | rfl | (simp; done) | (simp [*]; done)), (by first | rfl | (simp; done) | (simp [*]; done)), H', ⟨by have := HK1.out; omega⟩, by repeat (first | exact Drawn0.refl _ | apply Drawn0.step)⟩
            · rw [if_neg c6] at H
              exact absurd H (by simp)
          · rw [if_neg c5] at H
            exact absurd H (by simp)
        · rw [if_neg c4] at H
          have c4b0 : decide (x6_1 < (l0.length : Int)) = false := decide_eq_false c4
          clear c4
          obtain rfl := Option.some.inj H
          go_wp2
          repeat (go_quiet (fail); try go_wp2)
          go_ret
          exact ⟨by first | rfl | (simp; done) | (simp [*]; done), by repeat (first | exact Drawn0.refl _ | apply Drawn0.step)⟩
      · replace c3 := Bool.eq_false_iff.mpr c3
        subst c3
        have H1 : (some false) = some r := by rw [if_neg (show ¬ (false = true) by decide)] at H; exact H
        clear H
        have H := H1
        clear H1
        obtain rfl := Option.some.inj H
        go_wp2
        repeat (go_quiet (fail); try go_wp2)
        go_ret
        exact ⟨by first | rfl | (simp; done) | (simp [*]; done), by repeat (first | exact Drawn0.refl _ | apply Drawn0.step)⟩

end Go.Proofs.Ythhpoogocpdbjaa.Px
