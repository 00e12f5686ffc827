/- A map of texts to bools that the call made: what has been put in, and what is asked. -/
import Derived.Maps.OwnOps
import Derived.Maps.OwnSet
import Derived.Maps.Views
import Derived.StringKeys
import Derived.Carry
import Derived.Below
import Derived.Test.YtgopphglkjdcaaaStr
import Derived.Test.YtgopphglkjdcaaaWWords
import Derived.Test.YtgopphglkjdcaaaProg
namespace Go.Proofs.Ytgopphglkjdcaaa.MapB
open Go Go.Maps Go.WideMaps Go.RowKit Go.Proofs.YtgopphglkjdcaaaW.PrintWords
theorem keyed : Keyed Try.prog 9 := string_keyed Try.underlying9
theorem zeroB (w : World) : (zeroValue 4).run Try.prog w = .ok (.bool false) w := by kernel_rfl
theorem elem_inv {v : Value} {z : DataW Unit × List MemPlace} (h : plainElem Try.prog 4 v = some z) : ∃ x, v = .bool x ∧ z = (.lit (.bool x), []) := by
  unfold plainElem at h
  rw [Try.underlying4] at h
  cases v <;> simp at h
  exact ⟨_, rfl, h.symm⟩
def Seen (w : World) (b n : Nat) (l : List (List UInt8)) : Prop :=
  ∃ D : DataW Unit, w.ownsMap Try.prog 9 (plainElem Try.prog 4) b n D ∧ IsMap D ∧ ∀ s : ByteArray, D.atKey (.string s.data.toList) (.lit (.bool false)) = .lit (.bool (decide (s.data.toList ∈ l)))
theorem Seen.new (w : World) : Seen (w.alloc (.map #[] 0)) w.heap.size 0 [] := ⟨.map [], World.ownsMap_made _ _ _ _, isMap_empty, fun s => by simp; rfl⟩
theorem Seen.lt {w : World} {b n : Nat} {l : List (List UInt8)} (h : Seen w b n l) : b < w.heap.size := by
  obtain ⟨D, h1, _⟩ := h
  exact h1.lt
theorem Seen.below {w w' : World} {b n : Nat} {l : List (List UInt8)} (h : Seen w b n l) (hb : Below w.heap.size w w') : Seen w' b n l := by
  obtain ⟨D, h1, h2, h3⟩ := h
  refine ⟨D, ?_, h2, h3⟩
  obtain ⟨es, clock, h4, r⟩ := h1
  exact ⟨es, clock, (hb.block b ((Array.getElem?_eq_some_iff.1 h4).1)).trans h4, r⟩
theorem Seen.alloc {w : World} {b n : Nat} {l : List (List UInt8)} (h : Seen w b n l) (o : Obj) : Seen (w.alloc o) b n l := h.below ((Below.refl _ _).alloc (Nat.le_refl _) _)
theorem Seen.drewN {w : World} {b n : Nat} {l : List (List UInt8)} (h : Seen w b n l) (m : Nat) : Seen (w.drewN m) b n l := h
theorem Seen.far {w : World} {b n : Nat} {l : List (List UInt8)} (h : Seen w b n l) {p : Addr} (hp : b ≠ p.block) (u : Value) : Seen (w.setCell p u) b n l := by
  obtain ⟨D, h1, h2, h3⟩ := h
  refine ⟨D, ?_, h2, h3⟩
  obtain ⟨es, clock, h4, r⟩ := h1
  exact ⟨es, clock, (Below.heap_setCell w p u b hp).trans h4, r⟩
theorem Seen.look {w : World} {b n : Nat} {l : List (List UInt8)} (h : Seen w b n l) (s : ByteArray) (hs : s.size ≤ maxLen) :
    (Instr.lookup 72 (.map (some b)) (.string s) false).run Try.prog w = .ok (.bool (decide (s.data.toList ∈ l))) w := by
  obtain ⟨D, h1, h2, h3⟩ := h
  obtain ⟨v, ps, hr, hv⟩ := h1.lookup keyed Try.underlying72 (zeroB w) (plainElem_bool Try.underlying4 false) (keyOf_string_mk Try.underlying9 hs)
  obtain ⟨x, rfl, hx⟩ := elem_inv hv
  rw [h3 s] at hx
  simp only [Prod.mk.injEq, DataW.lit.injEq, Lit.bool.injEq] at hx
  rw [hr, hx.1]
theorem Seen.put {w : World} {b n : Nat} {l : List (List UInt8)} (h : Seen w b n l) (s : ByteArray) (hs : s.size ≤ maxLen) (hn : n < maxLen) :
    ∃ w', (Instr.mapUpdate 72 (.map (some b)) (.string s) (.bool true)).run Try.prog w = .ok () w' ∧ Seen w' b (n + 1) (s.data.toList :: l) ∧ w.grownBy w' (some b) := by
  obtain ⟨D, h1, h2, h3⟩ := h
  obtain ⟨w', hr, ho, hg⟩ := h1.update keyed Try.underlying72 hn (keyOf_string_mk Try.underlying9 hs) (plainElem_bool Try.underlying4 true)
  refine ⟨w', hr, ⟨_, ho, h2.put _ _, fun t => ?_⟩, hg⟩
  by_cases e : t.data.toList = s.data.toList
  · rw [e, atKey_put_same h2 (by trivial)]
    simp
  · rw [atKey_put_other (fun z => e (by simpa using z)), h3 t]
    simp [e]
end Go.Proofs.Ytgopphglkjdcaaa.MapB
