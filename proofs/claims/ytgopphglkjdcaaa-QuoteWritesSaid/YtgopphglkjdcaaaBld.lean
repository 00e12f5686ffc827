/- A strings.Builder of the call's own, written on: the two functions of the library whose laid contracts this dump's cut does not fit (the cut leaves out a statement that is never reached). -/
import Derived.Test.YtgopphglkjdcaaaShelf
import Derived.Shelf.RegionOpenPlain
import Derived.Lib.Strings
import Derived.Lib.Slices
import Derived.Lib.Walk
import Derived.Lib.Builder
import Derived.Lib.AppendStr
import Derived.Lib.UnsafeStr
import Derived.WalkKit
import Derived.Laws.Externs
set_option linter.unusedVariables false
namespace Go.Proofs.Ytgopphglkjdcaaa.Bld
open Go Go.Shelf Go.RowKit
abbrev T : TypeId := 59
theorem at_alloc {B b : Nat} {p : Value} {bs : List Value} {w : World} (h : Lib.BuilderAt T 5 B b p bs w) (o : Obj) : Lib.BuilderAt T 5 B b p bs (w.alloc o) := by
  have hl := h.lt
  obtain ⟨hB, v, hb, ho, hn⟩ := h
  exact ⟨hB, v, (Lib.alloc_old w o b hl).trans hb, ho.alloc o, hn⟩
theorem alloc {B b : Nat} {bs : List Value} {w : World} (h : Lib.IsBuilder T 5 B b bs w) (o : Obj) : Lib.IsBuilder T 5 B b bs (w.alloc o) :=
  h.elim (fun x => .inl (at_alloc x o)) (fun x => .inr (at_alloc x o))
theorem drewN {B b : Nat} {bs : List Value} {w : World} (h : Lib.IsBuilder T 5 B b bs w) (n : Nat) : Lib.IsBuilder T 5 B b bs (w.drewN n) := h
set_option maxHeartbeats 1000000 in
set_option maxRecDepth 100000 in
theorem check (B b : Nat) (bs : List Value) (w : World) (h : Lib.IsBuilder T 5 B b bs w) :
    Calls Try.prog 59 #[.pointer (some ⟨b, 0, none⟩)] w fun e w' => e = .returned (.tuple #[]) ∧ Lib.BuilderAt T 5 B b (.pointer (some ⟨b, 0, none⟩)) bs w' ∧ Below B w w' := by
  have X := Try.Builder_Extra_169
  obtain ⟨j, hj, hjs⟩ := Option.map_eq_some_iff.1 X.sizeBuilder
  rcases h with h | h
  · have c0 := h.cell0
    have hsh := h.shape
    have hfz := h.frozen0
    have hu := h.used
    have hB := h.1
    go_enter Try.func59, Try.ntmps59
    go_wp2
    (try (rw [Lib.run_to_unsafe w ⟨b, 0, none⟩ Try.underlying57 Try.underlying87 hj (by rw [hjs]; decide) hsh (Nat.zero_lt_succ 1)]; simp only [Result.andThen]; rw [Oper.upon_value]; go_wp2))
    rw [run_callFunc_extern Try.func64 (by kernel_rfl) (by kernel_rfl) (by kernel_rfl) (e := Extern.AbiNoEscape.same) (by kernel_rfl)]
    rw [Lib.run_noEscape]
    simp only [Result.andThen]
    rw [Oper.upon_value]
    go_wp2
    (try (rw [Lib.run_from_unsafe w ⟨b, 0, none⟩ Try.underlying87 Try.underlying57 hj hsh X.liesBuilder]; simp only [Result.andThen]; rw [Oper.upon_value]; go_wp2))
    go_end0
    exact ⟨rfl, hu _, (Below.refl B w).setCell (p := ⟨b, 0, none⟩) hB _⟩
  · have c0 := h.cell0
    go_enter Try.func59, Try.ntmps59
    go_wp2
    rw [Lib.run_neq_ptr_same w _ Try.underlying57 hj]
    go_wp2
    go_end0
    exact ⟨rfl, h, Below.refl B _⟩
set_option maxHeartbeats 2000000 in
set_option maxRecDepth 100000 in
theorem write (B b : Nat) (bs : List Value) (s : ByteArray) (w : World) (h : Lib.IsBuilder T 5 B b bs w) (hlen : bs.length + s.size ≤ 140737488355328) (hBw : B ≤ w.heap.size) :
    Calls Try.prog 41 #[.pointer (some ⟨b, 0, none⟩), .string s] w fun e w' => e = .returned (.tuple #[.int .i64 s.size, .nilIface]) ∧ Lib.IsBuilder T 5 B b (bs ++ Lib.strCells s) w' ∧ Below B w w' := by
  have X := Try.Builder_Extra_169
  obtain ⟨i0, hi, hz0, hz1, hz2⟩ := info_parts X.infoByte
  go_enter Try.func41, Try.ntmps41
  go_wp2_with fail
  refine (check B b bs _ h).mono ?_
  rintro e w1 ⟨rfl, h1, hb1⟩
  obtain ⟨hB, v, hbk, hown, hne⟩ := h1
  have c0 : w1.cell? ⟨b, 0, none⟩ = some (.pointer (some ⟨b, 0, none⟩)) := by rw [Lib.cell_of_heap hbk]; rfl
  have c1 : w1.cell? ⟨b, 1, none⟩ = some v := by rw [Lib.cell_of_heap hbk]; rfl
  go_wp2_with (at_builtin; refine Lib.wpList_append_own_string _ rfl _ _ 55 9 rfl B 5 i0 Try.underlying55 Try.underlying9 hi hz0 hz1 hz2 _ _ _ rfl hown s rfl ?c3 ?c4 ?c5 ?_)
  case c3 => unfold maxLen; omega
  case c4 => omega
  case c5 => have := hb1.size; omega
  intro v' w2 hown' hgrow _
  have hlt : b < w1.heap.size := by
    rcases Nat.lt_or_ge b w1.heap.size with h' | h'
    · exact h'
    · simp [Array.getElem?_eq_none h'] at hbk
  have hb2 : w2.heap[b]? = some (.cells #[.pointer (some ⟨b, 0, none⟩), v] T (0, 0)) := by
    rw [hgrow.block b hlt (fun e => hne e.symm)]
    exact hbk
  have d0 : w2.cell? ⟨b, 0, none⟩ = some (.pointer (some ⟨b, 0, none⟩)) := by rw [Lib.cell_of_heap hb2]; rfl
  have d1 : w2.cell? ⟨b, 1, none⟩ = some v := by rw [Lib.cell_of_heap hb2]; rfl
  have f1 : w2.frozen? ⟨b, 1, none⟩ = false := Lib.frozen_of_heap hb2 1
  obtain ⟨ao, n', cap, rfl⟩ : ∃ ao n' cap, v' = .slice ao n' cap := by
    rcases hown'.2 with ⟨hv, _⟩ | ⟨g, cap, cur, hv, _⟩
    · exact ⟨_, _, _, hv⟩
    · exact ⟨_, _, _, hv⟩
  go_wp2
  go_ret2
  refine ⟨rfl, .inr ?_, ?_⟩
  · exact Lib.BuilderAt.put (T := T) (e := 5) hB hb2 (bs' := bs ++ Lib.strCells s) (by simpa [Lib.strCells_length] using hown') X.neB5
  · exact (hb1.grown hgrow (by have := hb1.size; omega) (fun k hk => (hown.lt k hk).1)).setCell (p := ⟨b, 1, none⟩) hB _
end Go.Proofs.Ytgopphglkjdcaaa.Bld
