/- A number's groups and wide bytes, over whole numbers as the walk tells them. -/
import Derived.Laws.Entries
import Derived.Laws.BitsLemmas
import Derived.Laws.Bits64
import Derived.Laws.BytesArg
import Derived.OwnWalk
import Derived.Laws.Slices
import Derived.ArgAppend
import Derived.Test.YtgopphglkjdcaaaBRow
namespace Go.Proofs.Ytgopphglkjdcaaa.Oct
open Go
def gB (n : Int) : Int := Go.bits .or .i64 (n % 128) 128 % 256
def go : Nat → Int → List Int → List Int
  | 0, _, acc => acc
  | f + 1, n, acc => if n > 0 then go f (n / 128) (gB n :: acc) else acc
def groupsI (n : Int) : List Int := go 8 (n / 128) [n % 128]
theorem gB_eq (n : Int) : gB n = n % 128 + 128 := by
  unfold gB
  have : Go.bits .or .i64 (n % 128) 128 = Go.bits .or .i64 128 (n % 128) := by
    unfold Go.bits
    simp only [BitVec.or_comm]
  rw [this, bits_join .i64 63 (by decide) (fun n h0 h1 => by rw [IntKind.wrap_i64]; omega) 7 128 (n % 128) (by decide) (by decide) (by decide) (by omega) (by omega) (by omega)]
  omega
def wgo : Nat → Int → List Int → List Int
  | 0, _, acc => acc
  | f + 1, n, acc => wgo f (n / 256) (n % 256 :: acc)
def wideU (l : List Int) : Int := l.foldl (fun n b => Go.bits .or .u64 (IntKind.u64.wrap (n * 256)) b) 0
theorem go_pos (f : Nat) (n : Int) (acc : List Int) (h : 0 < n) : go (f + 1) n acc = go f (n / 128) (gB n :: acc) := if_pos h
theorem go_zero (f : Nat) (acc : List Int) : go f 0 acc = acc := by cases f <;> simp [go]

theorem wideU_snoc (l : List Int) (k : Nat) (h : k < l.length) : wideU (l.take (k + 1)) = Go.bits .or .u64 (IntKind.u64.wrap (wideU (l.take k) * 256)) (l.getD k 0) := by
  rw [List.take_succ_eq_append_getElem h]
  unfold wideU
  rw [List.foldl_append]
  simp only [List.foldl_cons, List.foldl_nil, List.getD, List.getElem?_eq_getElem h, Option.getD_some]
theorem wideU_range (l : List Int) : 0 ≤ wideU l ∧ wideU l < 18446744073709551616 := by
  have key : ∀ (l : List Int) (x : Int), 0 ≤ x ∧ x < 18446744073709551616 → 0 ≤ l.foldl (fun n b => Go.bits .or .u64 (IntKind.u64.wrap (n * 256)) b) x ∧ l.foldl (fun n b => Go.bits .or .u64 (IntKind.u64.wrap (n * 256)) b) x < 18446744073709551616 := by
    intro l
    induction l with
    | nil => intro x h; exact h
    | cons b l ih =>
      intro x _
      rw [List.foldl_cons]
      refine ih _ ?_
      unfold Go.bits
      rw [IntKind.wrap_u64 (_ : Int)]
      exact ⟨Int.emod_nonneg _ (by decide), Int.emod_lt_of_pos _ (by decide)⟩
  exact key l 0 (by omega)
theorem ints_range (s : ByteArray) (k : Nat) : 0 ≤ (BR.ints s).getD k 0 ∧ (BR.ints s).getD k 0 < 256 := by
  unfold BR.ints
  rw [List.getD, List.getElem?_map]
  cases s.data.toList[k]? with
  | none => simp
  | some b => have := b.toNat_lt; simp; omega

/-- An array variable's block: its last cells are known. -/
def Room (w : World) (g : Nat) (t : TypeId) (n at_ : Nat) (xs : List Int) : Prop :=
  ∃ cur, w.heap[g]? = some (.cells cur t (0, 0)) ∧ cur.size = n ∧ at_ ≤ n ∧ cur.toList.drop at_ = xs.map (Value.int .u8)
section
variable {w w' : World} {g : Nat} {t : TypeId} {n a : Nat} {xs : List Int}
theorem Room.lt (h : Room w g t n a xs) : g < w.heap.size := by
  obtain ⟨_, hg, _⟩ := h
  exact (Array.getElem?_eq_some_iff.1 hg).1
theorem Room.length (h : Room w g t n a xs) : xs.length = n - a := by
  obtain ⟨cur, _, hs, _, hd⟩ := h
  have := congrArg List.length hd
  simp at this
  omega
theorem Room.cell (h : Room w g t n a xs) (i : Nat) (hi : i < n) : ∃ v, w.cell? ⟨g, i, none⟩ = some v := by
  obtain ⟨cur, hg, hs, _, _⟩ := h
  rw [cell_of_row w g i cur t _ hg]
  exact ⟨cur[i], Array.getElem?_eq_getElem (by omega)⟩
theorem Room.free (h : Room w g t n a xs) (i : Nat) : w.frozen? ⟨g, i, none⟩ = false := by
  obtain ⟨cur, hg, _⟩ := h
  simp [World.frozen?, hg]
theorem Room.put (h : Room w g t n (a + 1) xs) (x : Int) : Room (w.setCell ⟨g, a, none⟩ (.int .u8 x)) g t n a (x :: xs) := by
  obtain ⟨cur, hg, hs, ha, hd⟩ := h
  refine ⟨cur.setIfInBounds a (.int .u8 x), by simp [World.setCell, Array.getElem?_modify, hg], by simpa using hs, by omega, ?_⟩
  rw [Array.toList_setIfInBounds, List.drop_eq_getElem_cons (by simp; omega), List.getElem_set_self, List.drop_set_of_lt (by omega), hd]
  rfl
theorem Room.at (h : Room w g t n a xs) (i : Nat) (hi : i < xs.length) : w.cell? ⟨g, a + i, none⟩ = some (.int .u8 (xs.getD i 0)) := by
  have hl := h.length
  obtain ⟨cur, hg, hs, ha, hd⟩ := h
  rw [cell_of_row w g (a + i) cur t _ hg]
  have h1 : (cur.toList.drop a)[i]? = (xs.map (Value.int .u8))[i]? := by rw [hd]
  rw [List.getElem?_drop] at h1
  simpa [List.getD, List.getElem?_eq_getElem hi] using h1
theorem Room.move (h : Room w g t n a xs) (hm : w'.heap[g]? = w.heap[g]?) : Room w' g t n a xs := by
  obtain ⟨cur, hg, r⟩ := h
  exact ⟨cur, hm.trans hg, r⟩
theorem Room.drop (h : Room w g t n a xs) (b : Nat) (hb : a + b ≤ n) : Room w g t n (a + b) (xs.drop b) := by
  obtain ⟨cur, hg, hs, ha, hd⟩ := h
  exact ⟨cur, hg, hs, hb, by rw [← List.drop_drop, hd, List.map_drop]⟩
theorem Room.new (w : World) (cs : Array Value) (t : TypeId) : Room (w.alloc (.cells cs t)) w.heap.size t cs.size cs.size [] :=
  ⟨cs, heap_alloc_new w _, rfl, Nat.le_refl _, by simp⟩
theorem Room.text (h : Room w g t n a xs) {P : Program} (src e : TypeId) (hs : P.underlying src = some (.slice e)) (he : P.underlying e = some (.int .u8)) (dst : TypeId) (hd : P.underlying dst = some .string) (m c : Nat) (hm : m = xs.length) :
    (convert src dst (.slice (some ⟨g, a, none⟩) m c)).run P w = .ok (.string (strOfNums xs)) w :=
  run_convert_bytes_arg w src e hs he g a m c xs hm.symm (fun i hi => h.at i (by omega)) dst hd
end
theorem slice_array {P : Program} (w : World) (t e : TypeId) (n g f : Nat) (ht : P.underlying t = some (.array n e)) (hs : (sizeOf e).run P w = .ok 1 w) (hf : f < n) :
    (Instr.sliceAt t (.pointer (some ⟨g, 0, none⟩)) (some (.int .i64 (f : Int))) none none).run P w = .ok (.slice (some ⟨g, f, none⟩) (n - f) (n - f)) w := by
  have h1 : ¬ n = f := by omega
  have h2 : (f : Int) ≤ (n : Int) := by omega
  simp [Instr.sliceAt, Instr.sureAddr, run_underlying ht, Instr.sliceBounds, run_sliceBound, hs, h1, h2, Addr.add_lit]
end Go.Proofs.Ytgopphglkjdcaaa.Oct
