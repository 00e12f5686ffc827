-- Laid by wip/hprint.py: the kit's print of the translation, turned in places, beside contracts that this session wrote by hand; Lean checks all of it.
import Derived.Test.YtnghebedingjaaaDoorPx0
namespace Go.Proofs.YtnghebedingjaaaDoor.Px
open Go.RowKit Go.Proofs.YtnghebedingjaaaDoorW.PrintWords Go.Proofs.YtnghebedingjaaaDoorW.PrintLast Go.Proofs.YtnghebedingjaaaDoorW.PrintMore
attribute [local go_sem] max2_int min2_int max_two min_two max_three min_three max_four min_four   -- for this text's walks alone
set_option linter.unusedVariables false
set_option linter.unusedSimpArgs false

/-! ### lex_Quote: function 11, by hand -/
theorem lex_Quote.low : ∀ b : Fin 256, bits BinOp.and IntKind.u8 (b.val : Int) 15 = ((b.val % 16 : Nat) : Int) := by decide +kernel
def lex_Quote.dig : ByteArray := ⟨#[48, 49, 50, 51, 52, 53, 54, 55, 56, 57, 97, 98, 99, 100, 101, 102]⟩
def lex_Quote.dg (n : Nat) : UInt8 := lex_Quote.dig.data.toList.getD n 0
def lex_Quote.hex (y : UInt8) : List UInt8 := [92, 120, lex_Quote.dg (y.toNat / 16), lex_Quote.dg (y.toNat % 16)]
def lex_Quote.one (y : UInt8) : List UInt8 :=
  if (y.toNat : Int) = 34 ∨ (y.toNat : Int) = 92 then [92, y] else if (y.toNat : Int) = 10 then [92, 110] else if (y.toNat : Int) = 9 then [92, 116]
  else if (y.toNat : Int) < 32 ∨ (y.toNat : Int) ≥ 127 then lex_Quote.hex y else [y]
def lex_Quote.all (l : List UInt8) : List UInt8 := 34 :: l.flatMap lex_Quote.one
def lex_Quote.f (a0 : ByteArray) : Option ByteArray := if a0.size ≤ 1073741824 then some ⟨(lex_Quote.all a0.data.toList ++ [34]).toArray⟩ else none
theorem lex_Quote.one_length (y : UInt8) : (lex_Quote.one y).length ≤ 4 := by
  unfold lex_Quote.one lex_Quote.hex
  repeat' split
  all_goals simp
theorem lex_Quote.all_length (l : List UInt8) : (lex_Quote.all l).length ≤ 1 + 4 * l.length := by
  unfold lex_Quote.all
  rw [List.length_cons]
  have : (l.flatMap lex_Quote.one).length ≤ 4 * l.length := by
    induction l with
    | nil => simp
    | cons a l ih => rw [List.flatMap_cons, List.length_append, List.length_cons]; have := lex_Quote.one_length a; omega
  omega
theorem lex_Quote.all_snoc (l : List UInt8) (i : Nat) (hi : i < l.length) : lex_Quote.all (l.take (i + 1)) = lex_Quote.all (l.take i) ++ lex_Quote.one (l.getD i 0) := by
  unfold lex_Quote.all
  rw [List.take_succ_eq_append_getElem hi, List.flatMap_append, List.flatMap_singleton, List.cons_append, List.getD_eq_getElem?_getD, List.getElem?_eq_getElem hi, Option.getD_some]
theorem lex_Quote.hexed (y : UInt8) (i j : Nat) (hi : i = y.toNat / 16) (hj : j = y.toNat % 16) (pi : i < lex_Quote.dig.size) (pj : j < lex_Quote.dig.size) :
    (⟨#[92, 120]⟩ : ByteArray) ++ strOfNums [((lex_Quote.dig[i]'pi).toNat : Int), ((lex_Quote.dig[j]'pj).toNat : Int)] = ⟨(lex_Quote.hex y).toArray⟩ := by
  subst hi
  subst hj
  have ei : lex_Quote.dig[y.toNat / 16]'pi = lex_Quote.dg (y.toNat / 16) := by
    unfold lex_Quote.dg
    rw [List.getD_eq_getElem?_getD, List.getElem?_eq_getElem (by simpa using pi), Option.getD_some]
    rfl
  have ej : lex_Quote.dig[y.toNat % 16]'pj = lex_Quote.dg (y.toNat % 16) := by
    unfold lex_Quote.dg
    rw [List.getD_eq_getElem?_getD, List.getElem?_eq_getElem (by simpa using pj), Option.getD_some]
    rfl
  rw [ei, ej]
  unfold lex_Quote.hex
  apply Str.ext
  rw [Str.app_L]
  simp [strOfNums]
set_option maxHeartbeats 4000000 in
set_option maxRecDepth 100000 in
theorem lex_Quote.calls (a0 : ByteArray) (r : ByteArray) (w : World) (h : lex_Quote.f a0 = some r) :
    Calls Tryd.prog 11 #[.string a0] w fun e w' => e = .returned (.string r) ∧ Below w.heap.size w w' := by
  unfold lex_Quote.f at h
  by_cases hs : a0.size ≤ 1073741824
  case neg => rw [if_neg hs] at h; cases h
  rw [if_pos hs] at h
  injection h with h
  have HR := Lib.hid h
  clear h
  go_enter Tryd.func11, Tryd.ntmps11
  go_wp2_with fail
  refine (Bld.writeByte2 w.heap.size w.heap.size [] 34 _ (Lib.fresh_isBuilder _ _ w) (by simp) (by simp)).mono ?_
  rintro e w1 ⟨rfl, hi1, hb1, _⟩
  have hbb := ((Below.refl w.heap.size w).alloc (Nat.le_refl _) _).trans hb1
  clear hb1
  have kc := Lib.run_convert_string_bytes (P := Tryd.prog) w1 9 48 5 a0 Tryd.underlying9 Tryd.underlying48 Tryd.underlying5
  have hcells := fun j hj => Lib.bytesWorld_cell w1 5 a0 j hj
  have hbel := Go.Proofs.YtnghebedingjaaaDoor.BR.bytesWorld_below w1 5 a0
  have hap := Bld.apart_next hi1 (fun k hk => Lib.bytesWorld_at_old w1 5 a0 k hk) (by rw [Lib.bytesWorld_size]; omega)
  have hi2 := Bld.move hi1 (fun k hk => Lib.bytesWorld_at_old w1 5 a0 k hk)
  have hb2 := hbb.trans (hbel.mono hbb.size)
  generalize hF : w1.heap.size = F at kc hcells hap
  generalize Lib.bytesWorld w1 5 a0 = W2 at kc hcells hbel hap hi2 hb2
  generalize grownCap w1 a0.size 0 5 = c0 at kc
  have HI := Aside0.mk hi2
  have HA := Aside0.mk hap
  have HC := Aside0.mk hcells
  have HB := Aside0.mk hb2
  clear hi1 hbb hbel hi2 hap hcells hb2 hF
  go_wp2_with fail
  go_loopw [10] (fun v wr => ∃ i : Nat, v = .int .i64 i ∧ i ≤ a0.size ∧ Aside0 (Lib.IsBuilder Bld.T 5 w.heap.size w.heap.size (Lib.byteCells (lex_Quote.all (a0.data.toList.take i))) wr) ∧ Aside0 (Bld.Apart w.heap.size F wr) ∧ Aside0 (wr.heap[F]? = W2.heap[F]?) ∧ Aside0 (Below w.heap.size w wr)) (fun v _ => match v with | .int _ n => a0.size - n.toNat | _ => 0)
  case atStart => exact ⟨0, rfl, Nat.zero_le _, HI, HA, ⟨rfl⟩, HB⟩
  case round =>
    obtain ⟨i, rfl, hi, HI', HA', HF', HB'⟩ := hrel
    clear HI HA HB
    have hw : w.heap.size ≤ wr.heap.size := HB'.out.size
    have hal := lex_Quote.all_length (a0.data.toList.take i)
    rw [List.length_take] at hal
    have hsz : (Lib.byteCells (lex_Quote.all (a0.data.toList.take i))).length + 10 ≤ 140737488355328 := by rw [Lib.byteCells_length]; omega
    clear hal
    have HSZ := Lib.hid hsz
    clear hsz
    by_cases hlt : i < a0.size
    · have hlt' : (i : Int) < (a0.size : Int) := by omega
      have hcell : wr.cell? ⟨F, i, none⟩ = some (.int .u8 ((a0.data.toList.getD i 0).toNat : Int)) := by
        have := HC.out i hlt
        rw [World.cell?] at this ⊢
        rw [HF'.out]
        exact this
      have hsn := lex_Quote.all_snoc a0.data.toList i (by simpa using hlt)
      have hlen2 : a0.size - (i + 1) < a0.size - i := by omega
      generalize hy : a0.data.toList.getD i 0 = y at hcell hsn
      have hyb := y.toNat_lt
      have HS := Lib.hid hsn
      clear hsn hy
      have FIN := Lib.hid (show ∀ (X : List UInt8) (W : World), lex_Quote.one y = X → Lib.IsBuilder Bld.T 5 w.heap.size w.heap.size (Lib.byteCells (lex_Quote.all (a0.data.toList.take i)) ++ Lib.byteCells X) W → Lib.IsBuilder Bld.T 5 w.heap.size w.heap.size (Lib.byteCells (lex_Quote.all (a0.data.toList.take (i + 1)))) W from fun X W e h => by rw [HS.out, Lib.byteCells_append, e]; exact h)
      clear HS
      go_upto_block 2 with (fail)
      clear hcell
      by_cases d34 : (y.toNat : Int) = 34
      · have E := Lib.hid (show lex_Quote.one y = [92, y] by unfold lex_Quote.one; rw [if_pos (.inl d34)])
        have c34 : ((y.toNat : Int) == 34) = true := beq_iff_eq.mpr d34
        clear d34
        go_wp2_with fail
        refine (Bld.writeByte2 w.heap.size w.heap.size (Lib.byteCells (lex_Quote.all (a0.data.toList.take i))) 92 _ HI'.out (by have := HSZ.out; omega) (by exact hw)).mono ?_
        rintro e w3 ⟨rfl, hi3, hb3, hst3⟩
        have hw3 : w.heap.size ≤ w3.heap.size := Nat.le_trans hw hb3.size
        have I3 := Aside0.mk hi3
        have B3 := Aside0.mk hb3
        have S3 := Aside0.mk hst3
        clear hi3 hb3 hst3
        go_wp2_with fail
        refine (Bld.writeByte2 w.heap.size w.heap.size ((Lib.byteCells (lex_Quote.all (a0.data.toList.take i))) ++ [.int .u8 92]) (y.toNat : Int) _ I3.out (by have := HSZ.out; simp only [List.length_append, List.length_cons, List.length_nil]; omega) (by exact hw3)).mono ?_
        rintro e w' ⟨rfl, hi, hb, hst2⟩
        have hst := S3.out.trans hst2
        have hB := B3.out.trans hb
        go_wp2_with fail
        exact ⟨⟨i + 1, by push_cast; rfl, hlt, ⟨FIN.out _ _ E.out (by rw [List.append_assoc] at hi; exact hi)⟩, ⟨(hst.2 F HA'.out).1⟩, ⟨(hst.2 F HA'.out).2.trans HF'.out⟩, ⟨HB'.out.trans hB⟩⟩, by show a0.size - (((i : Int) + 1)).toNat < a0.size - ((i : Int)).toNat; omega⟩
      have c34 : ((y.toNat : Int) == 34) = false := beq_eq_false_iff_ne.mpr d34
      by_cases d92 : (y.toNat : Int) = 92
      · have E := Lib.hid (show lex_Quote.one y = [92, y] by unfold lex_Quote.one; rw [if_pos (.inr d92)])
        have c92 : ((y.toNat : Int) == 92) = true := beq_iff_eq.mpr d92
        clear d92 d34
        go_wp2_with fail
        refine (Bld.writeByte2 w.heap.size w.heap.size (Lib.byteCells (lex_Quote.all (a0.data.toList.take i))) 92 _ HI'.out (by have := HSZ.out; omega) (by exact hw)).mono ?_
        rintro e w3 ⟨rfl, hi3, hb3, hst3⟩
        have hw3 : w.heap.size ≤ w3.heap.size := Nat.le_trans hw hb3.size
        have I3 := Aside0.mk hi3
        have B3 := Aside0.mk hb3
        have S3 := Aside0.mk hst3
        clear hi3 hb3 hst3
        go_wp2_with fail
        refine (Bld.writeByte2 w.heap.size w.heap.size ((Lib.byteCells (lex_Quote.all (a0.data.toList.take i))) ++ [.int .u8 92]) (y.toNat : Int) _ I3.out (by have := HSZ.out; simp only [List.length_append, List.length_cons, List.length_nil]; omega) (by exact hw3)).mono ?_
        rintro e w' ⟨rfl, hi, hb, hst2⟩
        have hst := S3.out.trans hst2
        have hB := B3.out.trans hb
        go_wp2_with fail
        exact ⟨⟨i + 1, by push_cast; rfl, hlt, ⟨FIN.out _ _ E.out (by rw [List.append_assoc] at hi; exact hi)⟩, ⟨(hst.2 F HA'.out).1⟩, ⟨(hst.2 F HA'.out).2.trans HF'.out⟩, ⟨HB'.out.trans hB⟩⟩, by show a0.size - (((i : Int) + 1)).toNat < a0.size - ((i : Int)).toNat; omega⟩
      have c92 : ((y.toNat : Int) == 92) = false := beq_eq_false_iff_ne.mpr d92
      by_cases d10 : (y.toNat : Int) = 10
      · have E := Lib.hid (show lex_Quote.one y = [92, 110] by unfold lex_Quote.one; rw [if_neg (by omega), if_pos d10])
        have c10 : ((y.toNat : Int) == 10) = true := beq_iff_eq.mpr d10
        clear d10 d34 d92
        go_wp2_with fail
        refine (Bld.write2 w.heap.size w.heap.size (Lib.byteCells (lex_Quote.all (a0.data.toList.take i))) ⟨#[92, 110]⟩ _ HI'.out (by have := HSZ.out; have e : (⟨#[92, 110]⟩ : ByteArray).size = 2 := rfl; omega) (by exact hw)).mono ?_
        rintro e w' ⟨rfl, hi, hb, hst⟩
        go_wp2_with fail
        exact ⟨⟨i + 1, by push_cast; rfl, hlt, ⟨FIN.out _ _ E.out hi⟩, ⟨(hst.2 F HA'.out).1⟩, ⟨(hst.2 F HA'.out).2.trans HF'.out⟩, ⟨HB'.out.trans hb⟩⟩, by show a0.size - (((i : Int) + 1)).toNat < a0.size - ((i : Int)).toNat; omega⟩
      have c10 : ((y.toNat : Int) == 10) = false := beq_eq_false_iff_ne.mpr d10
      by_cases d9 : (y.toNat : Int) = 9
      · have E := Lib.hid (show lex_Quote.one y = [92, 116] by unfold lex_Quote.one; rw [if_neg (by omega), if_neg d10, if_pos d9])
        have c9 : ((y.toNat : Int) == 9) = true := beq_iff_eq.mpr d9
        clear d9 d34 d92 d10
        go_wp2_with fail
        refine (Bld.write2 w.heap.size w.heap.size (Lib.byteCells (lex_Quote.all (a0.data.toList.take i))) ⟨#[92, 116]⟩ _ HI'.out (by have := HSZ.out; have e : (⟨#[92, 116]⟩ : ByteArray).size = 2 := rfl; omega) (by exact hw)).mono ?_
        rintro e w' ⟨rfl, hi, hb, hst⟩
        go_wp2_with fail
        exact ⟨⟨i + 1, by push_cast; rfl, hlt, ⟨FIN.out _ _ E.out hi⟩, ⟨(hst.2 F HA'.out).1⟩, ⟨(hst.2 F HA'.out).2.trans HF'.out⟩, ⟨HB'.out.trans hb⟩⟩, by show a0.size - (((i : Int) + 1)).toNat < a0.size - ((i : Int)).toNat; omega⟩
      have c9 : ((y.toNat : Int) == 9) = false := beq_eq_false_iff_ne.mpr d9
      by_cases dc : (y.toNat : Int) < 32 ∨ (y.toNat : Int) ≥ 127
      · have E := Lib.hid (show lex_Quote.one y = lex_Quote.hex y by unfold lex_Quote.one; rw [if_neg (by omega), if_neg d10, if_neg d9, if_pos dc])
        have q0 : (0 : Int) ≤ (y.toNat : Int) := by omega
        have q1 : (0 : Int) ≤ ((y.toNat : Int) / 16) := by omega
        have q2 : (y.toNat : Int) / 16 < 16 := by omega
        have q5 := lex_Quote.low ⟨y.toNat, hyb⟩
        have q3 : (0 : Int) ≤ bits BinOp.and IntKind.u8 (y.toNat : Int) 15 := by simp only at q5; omega
        have q4 : bits BinOp.and IntKind.u8 (y.toNat : Int) 15 < 16 := by simp only at q5; omega
        have H5 := Lib.hid q5
        have cc : (decide ((y.toNat : Int) < 32) = true ∧ True) ∨ (decide ((y.toNat : Int) < 32) = false ∧ decide ((y.toNat : Int) ≥ 127) = true) := by
          rcases dc with h | h
          · exact .inl ⟨decide_eq_true h, trivial⟩
          · exact .inr ⟨decide_eq_false (by omega), decide_eq_true h⟩
        clear q5 dc d34 d92 d10 d9
        go_upto_region 14 with (fail)
        go_cut [34] (fun v34 wc => v34 = .bool true ∧ wr = wc)
        case first =>
          rcases cc with ⟨e1, _⟩ | ⟨e1, e2⟩
          · go_upto_if 34 with (fail)
            go_meet
            case rel => exact ⟨rfl, rfl⟩
          · go_upto_if 34 with (fail)
            go_meet
            case rel => exact ⟨rfl, rfl⟩
        case rest =>
        obtain ⟨rfl, rfl⟩ := hcut
        clear cc
        go_upto_region 15 with (fail)
        go_still_tail 6, (by kernel_rfl)
        change wpList _ _ _ _ _ wr.drew
        go_wp2_with fail
        have key : ∀ (x1 x2 : Int), (convert 48 9 (.slice (some ⟨wr.heap.size, 0, none⟩) 2 2)).run Tryd.prog ((wr.alloc (Obj.cells #[.int .u8 x1, .int .u8 x2] 5)).drew) = .ok (.string (strOfNums [x1, x2])) ((wr.alloc (Obj.cells #[.int .u8 x1, .int .u8 x2] 5)).drew) := by
          intro x1 x2
          have hroom : Go.Proofs.YtnghebedingjaaaDoor.Oct.Room ((wr.alloc (Obj.cells #[.int .u8 x1, .int .u8 x2] 5)).drew) wr.heap.size 5 2 0 [x1, x2] := ⟨_, heap_alloc_new wr _, rfl, by decide, rfl⟩
          exact hroom.text 48 5 Tryd.underlying48 Tryd.underlying5 9 Tryd.underlying9 2 2 rfl
        rw [key]
        simp only [Result.andThen]
        rw [Oper.upon_value]
        go_wp2_with fail
        have hx := lex_Quote.hexed y (y.toNat / 16) (y.toNat % 16) rfl rfl (by show _ < 16; omega) (by show _ < 16; omega)
        unfold lex_Quote.dig at hx
        rw [hx]
        refine (Bld.write2 w.heap.size w.heap.size (Lib.byteCells (lex_Quote.all (a0.data.toList.take i))) ⟨(lex_Quote.hex y).toArray⟩ _ (Bld.drew (Bld.alloc HI'.out _)) (by have := HSZ.out; have e : (⟨(lex_Quote.hex y).toArray⟩ : ByteArray).size = 4 := rfl; omega) (by simp; omega)).mono ?_
        rintro e w' ⟨rfl, hi, hb, hst⟩
        have HA2 := fun (o : Obj) => Bld.Apart.drew (Bld.Apart.alloc HA'.out HI'.out o)
        have hF2 := (hst.2 F (HA2 _)).2.trans ((Lib.alloc_old wr _ F HA'.out.2.1).trans HF'.out)
        have hA3 := (hst.2 F (HA2 _)).1
        have HB3 := Aside0.mk ((below_drew1 (HB'.out.alloc hw _)).trans hb)
        have A3 := Aside0.mk hA3
        have F3 := Aside0.mk hF2
        clear HA2 hst hb hA3 hF2 key hx
        go_wp2_with fail
        exact ⟨⟨i + 1, by push_cast; rfl, hlt, ⟨FIN.out _ _ E.out hi⟩, A3, F3, HB3⟩, by show a0.size - (((i : Int) + 1)).toNat < a0.size - ((i : Int)).toNat; omega⟩
      · have E := Lib.hid (show lex_Quote.one y = [y] by unfold lex_Quote.one; rw [if_neg (by omega), if_neg d10, if_neg d9, if_neg dc])
        have e1 : decide ((y.toNat : Int) < 32) = false := decide_eq_false (by omega)
        have e2 : decide ((y.toNat : Int) ≥ 127) = false := decide_eq_false (by omega)
        clear dc d34 d92 d10 d9
        go_wp2_with fail
        refine (Bld.writeByte2 w.heap.size w.heap.size (Lib.byteCells (lex_Quote.all (a0.data.toList.take i))) (y.toNat : Int) _ HI'.out (by have := HSZ.out; omega) (by exact hw)).mono ?_
        rintro e w' ⟨rfl, hi, hb, hst⟩
        go_wp2_with fail
        exact ⟨⟨i + 1, by push_cast; rfl, hlt, ⟨FIN.out _ _ E.out hi⟩, ⟨(hst.2 F HA'.out).1⟩, ⟨(hst.2 F HA'.out).2.trans HF'.out⟩, ⟨HB'.out.trans hb⟩⟩, by show a0.size - (((i : Int) + 1)).toNat < a0.size - ((i : Int)).toNat; omega⟩
    · obtain rfl : i = a0.size := by omega
      have ht : a0.data.toList.take a0.size = a0.data.toList := List.take_of_length_le (by simp)
      rw [ht] at HI' HSZ
      go_wp2_with fail
      refine (Bld.writeByte2 w.heap.size w.heap.size (Lib.byteCells (lex_Quote.all a0.data.toList)) 34 _ HI'.out (by have := HSZ.out; omega) (by exact hw)).mono ?_
      rintro e w4 ⟨rfl, hi4, hb4, _⟩
      have hb5 := HB'.out.trans hb4
      go_wp2_with fail
      refine (Tryd.Builder_String_any w.heap.size w.heap.size (lex_Quote.all a0.data.toList ++ [34]) _ (by rw [Lib.byteCells_append]; exact hi4) hb5.size).mono ?_
      rintro e w6 ⟨rfl, hb6⟩
      go_wp2_with fail
      go_ret
      exact ⟨by rw [HR.out]; rfl, hb5.trans hb6⟩

/-! ### lex_Token_stands: function 20 -/
def lex_Token_stands.f (a0_0 : Int) (a0_1 : ByteArray) (a0_2 : Int) : Option (ByteArray) := if a0_0 = 3 then (if 1 + a0_1.size ≤ 9223372036854775807 then (some ((⟨#[36]⟩ : ByteArray) ++ a0_1)) else (none)) else (if a0_0 = 4 then ((lex_Quote.f a0_1).bind fun t123 => (some t123)) else (some a0_1))
set_option maxHeartbeats 8000000 in
set_option maxRecDepth 100000 in
theorem lex_Token_stands.calls (a0_0 : Int) (a0_1 : ByteArray) (a0_2 : Int) (r : ByteArray) (w : World) (h : lex_Token_stands.f a0_0 a0_1 a0_2 = some r) :
    Calls Tryd.prog 20 #[.agg #[.int .i64 a0_0, .string a0_1, .int .i64 a0_2]] w fun e w' => e = .returned (.string r) ∧ Below w.heap.size w w' := by
  have hu25 := Tryd.underlying25
  have HB := Aside0.mk (Below.refl w.heap.size w)
  have H : (if a0_0 = 3 then (if 1 + a0_1.size ≤ 9223372036854775807 then (some ((⟨#[36]⟩ : ByteArray) ++ a0_1)) else (none)) else (if a0_0 = 4 then ((lex_Quote.f a0_1).bind fun t123 => (some t123)) else (some a0_1))) = some r := h
  clear h
  by_cases c2 : a0_0 = 3
  · rw [if_pos c2] at H
    have c2b0 : (a0_0 == 3) = true := beq_iff_eq.mpr c2
    have c2b1 : (a0_0 != 3) = false := bne_eq_false_iff_eq.mpr c2
    clear c2
    by_cases c3 : 1 + a0_1.size ≤ 9223372036854775807
    · rw [if_pos c3] at H
      have c3b0 := eq_true c3
      have c3b1 : decide (1 + a0_1.size ≤ 9223372036854775807) = true := decide_eq_true c3
      try have c3b2 : (9223372036854775807 < 1 + a0_1.size) = False := eq_false (Nat.not_lt.2 c3)
      obtain rfl := Option.some.inj H
      go_enter Tryd.func20, Tryd.ntmps20
      go_wp2_with (first | ((with_reducible refine gate_dst (N := 1) rfl ?_); refine box_event ?hg (N := 1) ?hd (cs := #[.int .i64 a0_0, .string a0_1, .int .i64 a0_2]) (t := 25) ?hr ?_; (case hd => rfl); (case hg => rfl); (case hr => first | (go_simp; done) | (go_simp; rfl)); intro gb122 hg w4 hbox hb; have n0_ := Aside0.mk (below_step (by repeat (first | (with_reducible first | exact HB.out | apply below_alloc | apply pw_below_drewN | apply below_drew1) | exact HB.out)) hb); have n1_ := Aside0.mk (hbox); have n2_ := Aside0.mk ((by rw [hg]; exact (below_size (by repeat (first | (with_reducible first | exact HB.out | apply below_alloc | apply pw_below_drewN | apply below_drew1) | exact HB.out))) : w.heap.size ≤ gb122)); have n3_ := Aside0.mk ((by rw [hg]; exact (below_size (by repeat (first | (with_reducible first | exact HB.out | apply below_alloc | apply pw_below_drewN | apply below_drew1) | exact HB.out))) : w.heap.size ≤ gb122)); clear HB; have HB := n0_; have BK122 := n1_; have GW122 := n2_; have GE122 := n3_; clear n0_ n1_ n2_ n3_; clear hb hbox hg; have hcz5_0 : w4.cell? ⟨gb122, 0, none⟩ = some (.int .i64 a0_0) := (blk_cell BK122.out 0).trans rfl; have hcz5_1 : w4.cell? ⟨gb122, 1, none⟩ = some (.string a0_1) := (blk_cell BK122.out 1).trans rfl; have hcz5_2 : w4.cell? ⟨gb122, 2, none⟩ = some (.int .i64 a0_2) := (blk_cell BK122.out 2).trans rfl; have hfz5_0 := blk_frozen BK122.out 0; have hfz5_1 := blk_frozen BK122.out 1; have hfz5_2 := blk_frozen BK122.out 2))
      go_ret
      exact ⟨by first | rfl | (simp [errW_none, errW_some] <;> rfl) | (simp [*, errW_none, errW_some] <;> rfl), by repeat (first | (with_reducible first | exact HB.out | apply below_alloc | apply pw_below_drewN | apply below_drew1 | refine below_set ?_ GE122.out) | exact HB.out)⟩
    · rw [if_neg c3] at H
      exact absurd H (by simp)
  · rw [if_neg c2] at H
    have c2b0 : (a0_0 == 3) = false := beq_eq_false_iff_ne.mpr c2
    have c2b1 : (a0_0 != 3) = true := bne_iff_ne.mpr c2
    by_cases c6 : a0_0 = 4
    · rw [if_pos c6] at H
      have c6b0 : (a0_0 == 4) = true := beq_iff_eq.mpr c6
      have c6b1 : (a0_0 != 4) = false := bne_eq_false_iff_eq.mpr c6
      clear c6
      replace H := Option.bind_eq_some_iff.mp H
      obtain ⟨t123, A70, H⟩ := H
      replace H : (some t123) = some r := H
      have A7 := Aside0.mk A70
      clear A70
      obtain rfl := Option.some.inj H
      go_enter Tryd.func20, Tryd.ntmps20
      go_wp2_with (first | ((with_reducible refine gate_dst (N := 1) rfl ?_); refine box_event ?hg (N := 1) ?hd (cs := #[.int .i64 a0_0, .string a0_1, .int .i64 a0_2]) (t := 25) ?hr ?_; (case hd => rfl); (case hg => rfl); (case hr => first | (go_simp; done) | (go_simp; rfl)); intro gb122 hg w8 hbox hb; have n0_ := Aside0.mk (below_step (by repeat (first | (with_reducible first | exact HB.out | apply below_alloc | apply pw_below_drewN | apply below_drew1) | exact HB.out)) hb); have n1_ := Aside0.mk (hbox); have n2_ := Aside0.mk ((by rw [hg]; exact (below_size (by repeat (first | (with_reducible first | exact HB.out | apply below_alloc | apply pw_below_drewN | apply below_drew1) | exact HB.out))) : w.heap.size ≤ gb122)); have n3_ := Aside0.mk ((by rw [hg]; exact (below_size (by repeat (first | (with_reducible first | exact HB.out | apply below_alloc | apply pw_below_drewN | apply below_drew1) | exact HB.out))) : w.heap.size ≤ gb122)); clear HB; have HB := n0_; have BK122 := n1_; have GW122 := n2_; have GE122 := n3_; clear n0_ n1_ n2_ n3_; clear hb hbox hg; have hcz9_0 : w8.cell? ⟨gb122, 0, none⟩ = some (.int .i64 a0_0) := (blk_cell BK122.out 0).trans rfl; have hcz9_1 : w8.cell? ⟨gb122, 1, none⟩ = some (.string a0_1) := (blk_cell BK122.out 1).trans rfl; have hcz9_2 : w8.cell? ⟨gb122, 2, none⟩ = some (.int .i64 a0_2) := (blk_cell BK122.out 2).trans rfl; have hfz9_0 := blk_frozen BK122.out 0; have hfz9_1 := blk_frozen BK122.out 1; have hfz9_2 := blk_frozen BK122.out 2) | ((with_reducible refine gate_callee (f := 11) rfl ?_); refine goesL_ (some 14) rfl rfl Tryd.func11 (by kernel_rfl) rfl #[.string a0_1] rfl (by (try simp only [List.map_toArray, List.map_cons, List.map_nil]); first | done | rfl | (simp only [List.length_drop, List.length_take]; rfl)) ?_; (with_reducible refine (lex_Quote.calls a0_1 t123 _ A7.out).mono ?_); rintro e w10 ⟨rfl, hb⟩; refine ⟨_, rfl, ?_⟩; have n0_ := Aside0.mk (blk_below (g := gb122) (o := .cells #[.int .i64 a0_0, .string a0_1, .int .i64 a0_2] 25 (0, 0)) (by (with_reducible repeat (first | refine blk_drewN ?_ _ | refine blk_drew ?_ | refine blk_alloc ?_ _)); exact BK122.out) hb); have n1_ := Aside0.mk (below_step (by repeat (first | (with_reducible first | exact HB.out | apply below_alloc | apply pw_below_drewN | apply below_drew1 | refine below_set ?_ GE122.out) | exact HB.out)) hb); clear BK122; clear HB; have BK122 := n0_; have HB := n1_; clear n0_ n1_; (try clear hb); (try clear hb2); (try clear hk); (try clear hi)))
      go_ret
      exact ⟨by first | rfl | (simp [errW_none, errW_some] <;> rfl) | (simp [*, errW_none, errW_some] <;> rfl), by repeat (first | (with_reducible first | exact HB.out | apply below_alloc | apply pw_below_drewN | apply below_drew1 | refine below_set ?_ GE122.out) | exact HB.out)⟩
    · rw [if_neg c6] at H
      have c6b0 : (a0_0 == 4) = false := beq_eq_false_iff_ne.mpr c6
      have c6b1 : (a0_0 != 4) = true := bne_iff_ne.mpr c6
      obtain rfl := Option.some.inj H
      go_enter Tryd.func20, Tryd.ntmps20
      go_wp2_with (first | ((with_reducible refine gate_dst (N := 1) rfl ?_); refine box_event ?hg (N := 1) ?hd (cs := #[.int .i64 a0_0, .string a0_1, .int .i64 a0_2]) (t := 25) ?hr ?_; (case hd => rfl); (case hg => rfl); (case hr => first | (go_simp; done) | (go_simp; rfl)); intro gb122 hg w11 hbox hb; have n0_ := Aside0.mk (below_step (by repeat (first | (with_reducible first | exact HB.out | apply below_alloc | apply pw_below_drewN | apply below_drew1) | exact HB.out)) hb); have n1_ := Aside0.mk (hbox); have n2_ := Aside0.mk ((by rw [hg]; exact (below_size (by repeat (first | (with_reducible first | exact HB.out | apply below_alloc | apply pw_below_drewN | apply below_drew1) | exact HB.out))) : w.heap.size ≤ gb122)); have n3_ := Aside0.mk ((by rw [hg]; exact (below_size (by repeat (first | (with_reducible first | exact HB.out | apply below_alloc | apply pw_below_drewN | apply below_drew1) | exact HB.out))) : w.heap.size ≤ gb122)); clear HB; have HB := n0_; have BK122 := n1_; have GW122 := n2_; have GE122 := n3_; clear n0_ n1_ n2_ n3_; clear hb hbox hg; have hcz12_0 : w11.cell? ⟨gb122, 0, none⟩ = some (.int .i64 a0_0) := (blk_cell BK122.out 0).trans rfl; have hcz12_1 : w11.cell? ⟨gb122, 1, none⟩ = some (.string a0_1) := (blk_cell BK122.out 1).trans rfl; have hcz12_2 : w11.cell? ⟨gb122, 2, none⟩ = some (.int .i64 a0_2) := (blk_cell BK122.out 2).trans rfl; have hfz12_0 := blk_frozen BK122.out 0; have hfz12_1 := blk_frozen BK122.out 1; have hfz12_2 := blk_frozen BK122.out 2))
      go_ret
      exact ⟨by first | rfl | (simp [errW_none, errW_some] <;> rfl) | (simp [*, errW_none, errW_some] <;> rfl), by repeat (first | (with_reducible first | exact HB.out | apply below_alloc | apply pw_below_drewN | apply below_drew1 | refine below_set ?_ GE122.out) | exact HB.out)⟩

/-! ### strings_Contains: function 24, by hand -/
def strings_Contains.f (a0 a1 : ByteArray) : Option Bool := if a1.size = 1 then some (decide (0 ≤ Lib.indexByte a0.data.toList (a1.data.toList.getD 0 0))) else none
theorem strings_Contains.calls (a0 a1 : ByteArray) (r : Bool) (w : World) (h : strings_Contains.f a0 a1 = some r) :
    Calls Tryd.prog 24 #[.string a0, .string a1] w fun e w' => e = .returned (.bool r) ∧ Below w.heap.size w w' := by
  unfold strings_Contains.f at h
  by_cases h1 : a1.size = 1
  · rw [if_pos h1] at h
    injection h with h
    obtain ⟨c, hc⟩ : ∃ c, a1.data.toList = [c] := List.length_eq_one_iff.mp (by simpa using h1)
    have e : a1 = ⟨#[c]⟩ := Str.ext hc
    subst e
    subst h
    refine (Tryd.strings_Contains_one a0 c w).mono ?_
    rintro e w' ⟨rfl, hw⟩
    exact ⟨rfl, by first | (subst hw; exact Below.refl _ _) | exact hw⟩
  · rw [if_neg h1] at h
    cases h

end Go.Proofs.YtnghebedingjaaaDoor.Px
