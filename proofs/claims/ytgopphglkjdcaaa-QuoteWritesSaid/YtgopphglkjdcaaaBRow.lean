/- A row of bytes that the call itself made ('[]byte(s)' and what is appended to it), whatever mark stands behind its cells. -/
import Derived.Below
import Derived.ArgAppend
import Derived.Lib.ConvBytes
import Derived.Laws.BytesArg
import Derived.OwnWalk
import Derived.Deep.Draws
namespace Go.Proofs.Ytgopphglkjdcaaa.BR
open Go Go.RowKit

/-- The bytes of a text, as whole numbers. -/
def ints (s : ByteArray) : List Int := s.data.toList.map fun b => (b.toNat : Int)

def BRow (w : World) (base : Nat) (e : TypeId) (g cap : Nat) (xs : List Int) : Prop :=
  ∃ cur lo hi, base ≤ g ∧ w.heap[g]? = some (.cells cur e (lo, hi)) ∧ xs.length ≤ cap ∧ cap ≤ maxLen ∧ cur.size = cap ∧ cur.toList.take xs.length = xs.map (Value.int .u8) ∧ ∀ j, j < cap → ¬ (lo ≤ j ∧ j < hi)

section
variable {w w' : World} {base g cap : Nat} {e : TypeId} {xs : List Int}
theorem BRow.lt (h : BRow w base e g cap xs) : g < w.heap.size := by
  obtain ⟨_, _, _, _, hg, _⟩ := h
  exact (Array.getElem?_eq_some_iff.1 hg).1
theorem BRow.ge (h : BRow w base e g cap xs) : base ≤ g := by
  obtain ⟨_, _, _, hb, _⟩ := h
  exact hb
theorem BRow.le (h : BRow w base e g cap xs) : xs.length ≤ cap := by
  obtain ⟨_, _, _, _, _, hl, _⟩ := h
  exact hl
theorem BRow.move (h : BRow w base e g cap xs) (hm : w'.heap[g]? = w.heap[g]?) : BRow w' base e g cap xs := by
  obtain ⟨cur, lo, hi, hb, hg, r⟩ := h
  exact ⟨cur, lo, hi, hb, hm.trans hg, r⟩
theorem BRow.below (h : BRow w base e g cap xs) (hb : Below w.heap.size w w') : BRow w' base e g cap xs := h.move (hb.block g h.lt)
theorem BRow.alloc (h : BRow w base e g cap xs) (o : Obj) : BRow (w.alloc o) base e g cap xs := h.move (Below.heap_alloc w o g h.lt)
theorem BRow.drew (h : BRow w base e g cap xs) : BRow w.drew base e g cap xs := h.move rfl
theorem BRow.drewN (h : BRow w base e g cap xs) (n : Nat) : BRow (w.drewN n) base e g cap xs := h.move rfl
theorem BRow.far (h : BRow w base e g cap xs) {p : Addr} (hp : g ≠ p.block) (u : Value) : BRow (w.setCell p u) base e g cap xs := h.move (Below.heap_setCell w p u g hp)
theorem BRow.cell (h : BRow w base e g cap xs) (j : Nat) (hj : j < xs.length) : w.cell? ⟨g, j, none⟩ = some (.int .u8 (xs.getD j 0)) := by
  obtain ⟨cur, lo, hi, _, hg, hl, _, hs, ht, _⟩ := h
  rw [cell_of_row w g j cur e _ hg]
  have h1 : (cur.toList.take xs.length)[j]? = (xs.map (Value.int .u8))[j]? := by rw [ht]
  rw [List.getElem?_take, if_pos hj] at h1
  simpa [List.getD, List.getElem?_eq_getElem hj] using h1
theorem BRow.free (h : BRow w base e g cap xs) (j : Nat) (hj : j < cap) : w.frozen? ⟨g, j, none⟩ = false := by
  obtain ⟨cur, lo, hi, _, hg, _, _, _, _, hf⟩ := h
  have := hf j hj
  simp only [World.frozen?, hg, Bool.and_eq_false_imp, decide_eq_true_eq, decide_eq_false_iff_not]
  omega
theorem BRow.has (h : BRow w base e g cap xs) (j : Nat) (hj : j < cap) : (w.cell? ⟨g, j, none⟩).isSome = true := by
  obtain ⟨cur, lo, hi, _, hg, _, _, hs, _, _⟩ := h
  rw [cell_of_row w g j cur e _ hg]
  simp [hs, hj]
/-- One byte written within it. -/
theorem BRow.set (h : BRow w base e g cap xs) (j : Nat) (y : Int) : BRow (w.setCell ⟨g, j, none⟩ (.int .u8 y)) base e g cap (xs.set j y) := by
  obtain ⟨cur, lo, hi, hb, hg, hl, hc, hs, ht, hf⟩ := h
  refine ⟨cur.setIfInBounds j (.int .u8 y), lo, hi, hb, by simp [World.setCell, Array.getElem?_modify, hg], by simpa using hl, hc, by simpa using hs, ?_, hf⟩
  simp only [List.length_set, Array.toList_setIfInBounds, List.take_set, ht, List.map_set]
/-- One byte written behind it, within its room. -/
theorem BRow.room (h : BRow w base e g cap xs) (hj : xs.length < cap) (y : Int) : BRow (w.setCell ⟨g, xs.length, none⟩ (.int .u8 y)) base e g cap (xs ++ [y]) := by
  obtain ⟨cur, lo, hi, hb, hg, hl, hc, hs, ht, hf⟩ := h
  refine ⟨cur.setIfInBounds xs.length (.int .u8 y), lo, hi, hb, by simp [World.setCell, Array.getElem?_modify, hg], by simp; omega, hc, by simpa using hs, ?_, hf⟩
  simp only [List.length_append, List.length_cons, List.length_nil, Nat.zero_add, Array.toList_setIfInBounds, List.map_append, List.map_cons, List.map_nil]
  rw [List.take_succ_eq_append_getElem (by simp [hs]; omega), List.getElem_set_self, List.take_set_of_le (Nat.le_refl _), ht]
/-- A row of the call's own is one. -/
theorem BRow.of_own {v : Value} (h : w.ownsRow base e 1 v xs.length (xs.map (Value.int .u8))) (hn : v ≠ .slice none 0 0) : ∃ g cap, v = .slice (some ⟨g, 0, none⟩) xs.length cap ∧ BRow w base e g cap xs := by
  rcases h.2 with ⟨rfl, _⟩ | ⟨g, cap, cur, rfl, hb, hg, hl, hc, hs, ht⟩
  · exact absurd rfl hn
  · exact ⟨g, cap, rfl, cur, 0, 0, hb, hg, hl, hc, by simpa using hs, by simpa using ht, fun j _ => by omega⟩
theorem BRow.own_back (h : BRow w base e g cap xs) {P : Program} (src : TypeId) (hs : P.underlying src = some (.slice e)) (he : P.underlying e = some (.int .u8)) (dst : TypeId) (hd : P.underlying dst = some .string) :
    (convert src dst (.slice (some ⟨g, 0, none⟩) xs.length cap)).run P w = .ok (.string (strOfNums xs)) w :=
  run_convert_bytes_arg w src e hs he g 0 xs.length cap xs rfl (fun i hi => by rw [Nat.zero_add]; exact h.cell i hi) dst hd
end

theorem bytesWorld_below (w : World) (e : TypeId) (s : ByteArray) : Below w.heap.size w (Lib.bytesWorld w e s) :=
  ⟨by simp [Lib.bytesWorld, World.freeze, World.alloc, World.drew, -World.alloc_eq, -World.drew_eq], by simp [Lib.bytesWorld, World.freeze, World.alloc, World.drew, -World.alloc_eq, -World.drew_eq], by simp [Lib.bytesWorld, World.freeze, World.alloc, World.drew, -World.alloc_eq, -World.drew_eq], by rw [Lib.bytesWorld_size]; omega, fun k hk => Lib.bytesWorld_at_old w e s k hk⟩
theorem bytesWorld_row (w : World) (e : TypeId) (s : ByteArray) (hs : s.size ≤ maxLen) : BRow (Lib.bytesWorld w e s) w.heap.size e w.heap.size (grownCap w s.size 0 e) (ints s) := by
  have hge := grownCap_ge w s.size 0 e
  have hcm := grownCap_le_maxLen w s.size 0 e hs
  have hsz : (Lib.bytesCells w e s).size = grownCap w s.size 0 e := by
    simp only [Lib.bytesCells, Array.size_append, Array.size_map, Array.size_replicate, ByteArray.size_data]
    omega
  refine ⟨Lib.bytesCells w e s, _, _, Nat.le_refl _, Lib.bytesWorld_at_new w e s, by simpa [ints] using hge, hcm, hsz, ?_, fun j hj => by omega⟩
  simp only [Lib.bytesCells, ints, Array.toList_append, List.length_map, List.map_map]
  rw [List.take_append_of_le_length (by simp), List.take_of_length_le (by simp)]
  simp [Function.comp_def]

/-- 'append' of one byte onto such a row: another such row, and nothing below the base has turned. -/
theorem wpList_append_brow {P : Program} (w : World) {ops : Array Oper} {rest : List Oper} {o : Oper} {a : Act} {Q : Exit → Act → World → Prop}
    (hg : o.guard = none) (s x : Operand) (t : TypeId) (hop : o.op = Op.call { callee := Callee.builtin Builtin.append, args := #[s, x], argTypes := #[t, t] })
    (base : Nat) (e : TypeId) (i : TypeInfo) (z : Value) (h1 : P.underlying t = some (.slice e)) (h2 : P.info? e = some i) (h3 : i.zero = some z) (h4 : i.size = 1) (h5 : i.bytes = 1) (h6 : z.cells.size = 1)
    (g cap : Nat) (xs : List Int) (hrow : BRow w base e g cap xs) (n : Nat) (hs : a.eval s = .slice (some ⟨g, 0, none⟩) n cap) (hn : n = xs.length)
    (ad : Addr) (y : Int) (c : Nat) (hx : a.eval x = .slice (some ad) 1 c) (hc : w.cell? ad = some (.int .u8 y)) (had : ad.spot = none) (hbase : base ≤ w.heap.size)
    (hl : xs.length + 1 ≤ 70368744177664)
    (hK : ∀ (g' cap' : Nat) (w' : World), BRow w' base e g' cap' (xs ++ [y]) → Below base w w' → wpList P ops Q rest (a.put o.dst (.slice (some ⟨g', 0, none⟩) (xs.length + 1) cap')) w') :
    wpList P ops Q (o :: rest) a w := by
  subst hn
  have hml : xs.length + 1 ≤ maxLen := by unfold maxLen; omega
  have hadd : ∀ j u, [Value.int .u8 y][j]? = some u → w.cell? (ad.add j) = some u := by
    intro j u hj
    cases j with
    | zero =>
      simp only [List.getElem?_cons_zero, Option.some.injEq] at hj
      subst hj
      have : ad.add 0 = ad := by cases ad; simp_all [Addr.add]
      rw [this]
      exact hc
    | succ j => simp at hj
  refine wpList_append_arg w hg s x t hop e i z 1 1 h1 h2 h3 h4 h5 h6 (by decide) g 0 xs.length cap (xs.map (Value.int .u8)) hs (by simp) (fun j u hj => ?_) ad 1 c [.int .u8 y] hx rfl hadd (by simp [Value.oneCell']) (fun hr j hj => ?_) hml (by omega) (fun hr => ?_) (fun _ v' w' hown hgr => ?_)
  · rw [Nat.zero_add]
    have hlt : j < xs.length := by
      rcases Nat.lt_or_ge j xs.length with h | h
      · exact h
      · simp [List.getElem?_eq_none (show (xs.map (Value.int .u8)).length ≤ j by simpa using h)] at hj
    rw [hrow.cell j hlt]
    simpa [List.getD, List.getElem?_eq_getElem hlt] using hj
  · have e0 : 0 + xs.length * 1 + j = xs.length := by simp at hj; omega
    rw [e0]
    exact ⟨hrow.has _ (by omega), hrow.free _ (by omega)⟩
  · have e0 : 0 + xs.length * 1 = xs.length := by omega
    rw [e0]
    exact hK g cap _ (hrow.room (by omega) y) ((Below.refl _ _).setCell hrow.ge _)
  · have hne : v' ≠ .slice none 0 0 := by
      rintro rfl
      rcases hown.2 with ⟨_, h0⟩ | ⟨g', c', cur, hv, _⟩
      · omega
      · cases hv
    have hown' : w'.ownsRow w.heap.size e 1 v' (xs ++ [y]).length ((xs ++ [y]).map (Value.int .u8)) := by simpa using hown
    obtain ⟨g', cap', hv, hb'⟩ := BRow.of_own hown' hne
    subst hv
    have := hK g' cap' w' (by
      obtain ⟨cur, lo, hi, hb, r⟩ := hb'
      exact ⟨cur, lo, hi, Nat.le_trans hbase hb, r⟩) ((Below.refl _ _).grown hgr hbase (fun k hk => by cases hk))
    simpa using this

end Go.Proofs.Ytgopphglkjdcaaa.BR
