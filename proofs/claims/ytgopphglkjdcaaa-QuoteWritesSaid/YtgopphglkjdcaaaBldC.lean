/- A strings.Builder of the call's own beside other blocks of the call's own: the contracts of Bld and BldB that also tell what stays. -/
import Derived.Test.YtgopphglkjdcaaaBldB
import Derived.Maps.AppendAt
set_option linter.unusedVariables false
namespace Go.Proofs.Ytgopphglkjdcaaa.Bld
open Go Go.Shelf Go.RowKit
/-- Block k is neither the builder b nor its buffer. -/
def Apart (b k : Nat) (w : World) : Prop := k ≠ b ∧ k < w.heap.size ∧ ∀ p v fr, w.heap[b]? = some (.cells #[p, v] T fr) → v.ownBlock ≠ some k
theorem Apart.same {b k : Nat} {w w' : World} (h : Apart b k w) (hb : w'.heap[b]? = w.heap[b]?) (hs : w.heap.size ≤ w'.heap.size) : Apart b k w' :=
  ⟨h.1, Nat.lt_of_lt_of_le h.2.1 hs, fun p v fr e => h.2.2 p v fr (hb.symm.trans e)⟩
theorem Apart.drewN {b k : Nat} {w : World} (h : Apart b k w) (n : Nat) : Apart b k (w.drewN n) := h
theorem Apart.drew {b k : Nat} {w : World} (h : Apart b k w) : Apart b k w.drew := h
theorem Apart.alloc {B b k : Nat} {bs : List Value} {w : World} (h : Apart b k w) (hb : Lib.IsBuilder T 5 B b bs w) (o : Obj) : Apart b k (w.alloc o) :=
  h.same (Lib.alloc_old w o b (hb.elim (fun x => x.lt) (fun x => x.lt))) (by simp)
theorem Apart.set {b k : Nat} {w : World} (h : Apart b k w) {p : Addr} (hp : b ≠ p.block) (u : Value) : Apart b k (w.setCell p u) :=
  h.same (Below.heap_setCell w p u b hp) (by simp [World.setCell])
/-- A block made now is apart from the builder. -/
theorem apart_new {B b : Nat} {bs : List Value} {w : World} (h : Lib.IsBuilder T 5 B b bs w) (o : Obj) : Apart b w.heap.size (w.alloc o) := by
  have key : ∀ p0, Lib.BuilderAt T 5 B b p0 bs w → Apart b w.heap.size (w.alloc o) := by
    intro p0 hx
    have hl := hx.lt
    obtain ⟨hB, v0, hb, hown, hn⟩ := hx
    refine ⟨by omega, by simp, fun p v fr e => ?_⟩
    have e2 := (Lib.alloc_old w o b hl).symm.trans e
    rw [hb] at e2
    simp only [Option.some.injEq, Obj.cells.injEq] at e2
    have hv : v0 = v := by
      have := e2.1
      simp at this
      exact this.2
    subst hv
    intro hk
    have := (hown.lt w.heap.size hk).2
    omega
  exact h.elim (key _) (key _)
/-- The builder's own block is kept where it is apart from what is written. -/
theorem far {B b : Nat} {bs : List Value} {w : World} (h : Lib.IsBuilder T 5 B b bs w) {p : Addr} (ha : Apart b p.block w) (u : Value) : Lib.IsBuilder T 5 B b bs (w.setCell p u) := by
  have key : ∀ p0, Lib.BuilderAt T 5 B b p0 bs w → Lib.BuilderAt T 5 B b p0 bs (w.setCell p u) := by
    rintro p0 ⟨hB, v, hb, ho, hn⟩
    refine ⟨hB, v, (Below.heap_setCell w p u b (fun e => ha.1 e.symm)).trans hb, ho.kept (row := some p.block) ⟨rfl, rfl, rfl, by simp [World.setCell], fun k _ hk => Below.heap_setCell _ _ _ _ (fun e => hk (by rw [e]))⟩ (.inr (ha.2.2 _ _ _ hb)), hn⟩
  exact h.elim (fun x => .inl (key _ x)) (fun x => .inr (key _ x))
theorem move {B b : Nat} {bs : List Value} {w w' : World} (h : Lib.IsBuilder T 5 B b bs w) (hk : ∀ k, k < w.heap.size → w'.heap[k]? = w.heap[k]?) : Lib.IsBuilder T 5 B b bs w' := by
  have key : ∀ p0, Lib.BuilderAt T 5 B b p0 bs w → Lib.BuilderAt T 5 B b p0 bs w' := by
    intro p0 hx
    have hl := hx.lt
    obtain ⟨hB, v, hb, ho, hn⟩ := hx
    refine ⟨hB, v, (hk b hl).trans hb, ⟨ho.1, ?_⟩, hn⟩
    rcases ho.2 with hn | ⟨g, cap, cur, rfl, hbg, hgg, rest⟩
    · exact .inl hn
    · exact .inr ⟨g, cap, cur, rfl, hbg, (hk g (Array.getElem?_eq_some_iff.1 hgg).1).trans hgg, rest⟩
  exact h.elim (fun x => .inl (key _ x)) (fun x => .inr (key _ x))
theorem drew {B b : Nat} {bs : List Value} {w : World} (h : Lib.IsBuilder T 5 B b bs w) : Lib.IsBuilder T 5 B b bs w.drew := h
/-- The next block is apart from the builder. -/
theorem apart_next {B b : Nat} {bs : List Value} {w w' : World} (h : Lib.IsBuilder T 5 B b bs w) (hk : ∀ k, k < w.heap.size → w'.heap[k]? = w.heap[k]?) (hs : w.heap.size < w'.heap.size) : Apart b w.heap.size w' := by
  have hl : b < w.heap.size := h.elim (fun x => x.lt) (fun x => x.lt)
  have h1 := apart_new h (.cells #[] T)
  exact ⟨h1.1, hs, fun p v fr e => h1.2.2 p v fr ((Lib.alloc_old w _ b hl).trans ((hk b hl).symm.trans e))⟩
/-- A call that turns one block alone, apart from the builder. -/
theorem keep {B b g : Nat} {bs : List Value} {w w' : World} (h : Lib.IsBuilder T 5 B b bs w) (ha : Apart b g w) (hk : ∀ k, k < w.heap.size → k ≠ g → w'.heap[k]? = w.heap[k]?) : Lib.IsBuilder T 5 B b bs w' := by
  have key : ∀ p0, Lib.BuilderAt T 5 B b p0 bs w → Lib.BuilderAt T 5 B b p0 bs w' := by
    intro p0 hx
    have hl := hx.lt
    obtain ⟨hB, v, hb, ho, hn⟩ := hx
    refine ⟨hB, v, (hk b hl (fun e => ha.1 e.symm)).trans hb, ⟨ho.1, ?_⟩, hn⟩
    have hv := ha.2.2 _ _ _ hb
    rcases ho.2 with hn | ⟨g2, cap, cur, rfl, hbg, hgg, rest⟩
    · exact .inl hn
    · refine .inr ⟨g2, cap, cur, rfl, hbg, (hk g2 (Array.getElem?_eq_some_iff.1 hgg).1 (fun e => hv (by simp [Value.ownBlock, e]))).trans hgg, rest⟩
  exact h.elim (fun x => .inl (key _ x)) (fun x => .inr (key _ x))
theorem run_append_own_string_at {P : Program} (w : World) (base : Nat) (t u ty e : TypeId) (i : TypeInfo) (ht : P.underlying t = some (.slice e)) (hu : P.underlying u = some .string) (hi : P.info? e = some i) (hz : i.zero = some (.int .u8 0))
    (hsize : i.size = 1) (hby : i.bytes = 1) (v : Value) (n : Nat) (xs : List Value) (hown : w.ownsRow base e 1 v n xs) (s : ByteArray)
    (h63 : n + s.size ≤ maxLen) (hbytes : n + s.size ≤ 140737488355328) (hbase : base ≤ w.heap.size) :
    ∃ v' w', (Builtin.append_ #[t, u] ty #[v, .string s]).run P w = .ok v' w' ∧ w'.ownsRow base e 1 v' (n + s.size) (xs ++ Lib.strCells s) ∧ w.grownBy w' v.ownBlock ∧ (v'.ownBlock = v.ownBlock ∨ v'.ownBlock = some w.heap.size) := by
  obtain ⟨v', w', hr, h2, h3, h4⟩ := Lib.run_append_own_string (P := P) w base t u ty e i ht hu hi hz hsize hby v n xs hown s h63 hbytes hbase
  refine ⟨v', w', hr, h2, h3, ?_⟩
  have hsm : n + s.size ≤ 9223372036854775807 := by simp only [maxLen] at h63; omega
  rcases hown.2 with ⟨rfl, rfl⟩ | ⟨g, cap, cur, rfl, hbg, hg, hnc, hcm, hcs, htake⟩
  · by_cases hm : s.size = 0
    · rw [h4.2 ⟨rfl, hm⟩]
      exact .inl rfl
    · have hq := run_append_nil_string (P := P) w t u ty e i (.int .u8 0) ht hu hi hz s (by omega) (by omega) (by rw [hby]; omega)
      rw [hr] at hq
      injection hq with hv _
      rw [hv]
      exact .inr rfl
  · by_cases hroom : n + s.size ≤ cap
    · have hcs' : cur.size = cap := by simpa using hcs
      have hq := Lib.run_append_room_string (P := P) w t u ty e i ht hu hi hsize g n cap cur hg s hroom (by omega)
      rw [hr] at hq
      injection hq with hv _
      rw [hv]
      exact .inl rfl
    · have hxl : xs.length = n := by simpa using hown.1
      have hq := Lib.run_append_grow_string (P := P) w t u ty e i (.int .u8 0) ht hu hi hz ⟨g, 0, none⟩ n cap xs (by rw [hsize]; simpa using hxl) (hown.cells (g := g) rfl) s (by omega) (by omega) (by rw [hby]; exact growslice_fits (by omega) (by omega))
      rw [hr] at hq
      injection hq with hv _
      rw [hv]
      exact .inr rfl
theorem wpList_append_own_string_at {P : Program} (w : World) {ops : Array Oper} {rest : List Oper} {o : Oper} {a : Act} {Q : Exit → Act → World → Prop} (hgd : o.guard = none) (sl x : Operand) (t u : TypeId)
    (ho : o.op = .call { callee := .builtin .append, args := #[sl, x], argTypes := #[t, u] })
    (base : Nat) (e : TypeId) (i : TypeInfo) (ht : P.underlying t = some (.slice e)) (hu : P.underlying u = some .string) (hi : P.info? e = some i) (hz : i.zero = some (.int .u8 0))
    (hsize : i.size = 1) (hby : i.bytes = 1)
    (v : Value) (n : Nat) (xs : List Value) (hs : a.eval sl = v) (hown : w.ownsRow base e 1 v n xs) (s : ByteArray) (hx : a.eval x = .string s)
    (h63 : n + s.size ≤ maxLen) (hbytes : n + s.size ≤ 140737488355328) (hbase : base ≤ w.heap.size)
    (h : ∀ v' w', w'.ownsRow base e 1 v' (n + s.size) (xs ++ Lib.strCells s) → w.grownBy w' v.ownBlock → (v'.ownBlock = v.ownBlock ∨ v'.ownBlock = some w.heap.size) → wpList P ops Q rest (a.put o.dst v') w') : wpList P ops Q (o :: rest) a w := by
  refine wpList_plain hgd fun K hK => ?_
  obtain ⟨v', w', hr, h2, h3, h4⟩ := run_append_own_string_at (P := P) w base t u o.type e i ht hu hi hz hsize hby v n xs hown s h63 hbytes hbase
  unfold Oper.wp execOp
  simp only [ho, resolve, invoke, builtin, Sem.run_bind, Sem.run_pure, Result.andThen_ok, List.map_toArray, List.map_cons, List.map_nil, hs, hx, hr]
  exact hK _ _ (h v' w' h2 h3 h4)
/-- What a write of the builder leaves: every block apart from it. -/
def Stays (b : Nat) (w w' : World) : Prop := w.heap.size ≤ w'.heap.size ∧ ∀ k, Apart b k w → Apart b k w' ∧ w'.heap[k]? = w.heap[k]?
theorem Stays.refl (b : Nat) (w : World) : Stays b w w := ⟨Nat.le_refl _, fun _ h => ⟨h, rfl⟩⟩
theorem Stays.trans {b : Nat} {w w1 w2 : World} (h : Stays b w w1) (k : Stays b w1 w2) : Stays b w w2 :=
  ⟨Nat.le_trans h.1 k.1, fun i hi => ⟨(k.2 i (h.2 i hi).1).1, (k.2 i (h.2 i hi).1).2.trans (h.2 i hi).2⟩⟩
/-- The builder's buffer moved from v to v'. -/
theorem stays_put {b : Nat} {p v v' : Value} {w w2 : World} (hbk : w.heap[b]? = some (.cells #[p, v] T (0, 0))) (hgrow : w.grownBy w2 v.ownBlock) (hv : v'.ownBlock = v.ownBlock ∨ v'.ownBlock = some w.heap.size) (hb2 : w2.heap[b]? = some (.cells #[p, v] T (0, 0))) : Stays b w (w2.setCell ⟨b, 1, none⟩ v') := by
  refine ⟨by have := hgrow.size; simpa [World.setCell] using this, fun k hk => ?_⟩
  have hkv := hk.2.2 _ _ _ hbk
  have h1 : (w2.setCell ⟨b, 1, none⟩ v').heap[k]? = w2.heap[k]? := Below.heap_setCell w2 ⟨b, 1, none⟩ v' k hk.1
  refine ⟨⟨hk.1, by have := hgrow.size; have := hk.2.1; simp [World.setCell]; omega, fun p2 v2 fr e => ?_⟩, h1.trans (hgrow.block k hk.2.1 (fun e => hkv e.symm))⟩
  have e2 : (w2.setCell ⟨b, 1, none⟩ v').heap[b]? = some (.cells #[p, v'] T (0, 0)) := by simp [World.setCell, Array.getElem?_modify, hb2]
  rw [e2] at e
  simp only [Option.some.injEq, Obj.cells.injEq] at e
  have hvv : v' = v2 := by
    have := e.1
    simp at this
    exact this.2
  subst hvv
  rcases hv with h | h
  · rw [h]
    exact hkv
  · rw [h]
    intro z
    have := hk.2.1
    simp only [Option.some.injEq] at z
    omega
theorem stays_alloc {B b : Nat} {p : Value} {bs : List Value} {w : World} (h : Lib.BuilderAt T 5 B b p bs w) (o : Obj) : Stays b w (w.alloc o) :=
  ⟨by simp, fun k hk => ⟨hk.same (Lib.alloc_old w o b h.lt) (by simp), Lib.alloc_old w o k hk.2.1⟩⟩
set_option maxHeartbeats 1000000 in
set_option maxRecDepth 100000 in
theorem check2 (B b : Nat) (bs : List Value) (w : World) (h : Lib.IsBuilder T 5 B b bs w) :
    Calls Try.prog 59 #[.pointer (some ⟨b, 0, none⟩)] w fun e w' => e = .returned (.tuple #[]) ∧ Lib.BuilderAt T 5 B b (.pointer (some ⟨b, 0, none⟩)) bs w' ∧ Below B w w' ∧ Stays b w w' := by
  have X := Try.Builder_Extra_169
  obtain ⟨j, hj, hjs⟩ := Option.map_eq_some_iff.1 X.sizeBuilder
  rcases h with h | h
  · have c0 := h.cell0
    have hsh := h.shape
    have hfz := h.frozen0
    have hu := h.used
    have hB := h.1
    have hst : Stays b w (w.setCell ⟨b, 0, none⟩ (.pointer (some ⟨b, 0, none⟩))) := by
      obtain ⟨_, v, hb, _, _⟩ := h
      refine ⟨by simp [World.setCell], fun k hk => ⟨⟨hk.1, by simpa [World.setCell] using hk.2.1, fun p2 v2 fr e => ?_⟩, Below.heap_setCell w ⟨b, 0, none⟩ _ k hk.1⟩⟩
      have e2 : (w.setCell ⟨b, 0, none⟩ (.pointer (some ⟨b, 0, none⟩))).heap[b]? = some (.cells #[.pointer (some ⟨b, 0, none⟩), v] T (0, 0)) := by simp [World.setCell, Array.getElem?_modify, hb]
      rw [e2] at e
      simp only [Option.some.injEq, Obj.cells.injEq] at e
      have hvv : v = v2 := by
        have := e.1
        simp at this
        exact this.2
      subst hvv
      exact hk.2.2 _ _ _ hb
    go_enter Try.func59, Try.ntmps59
    go_wp2
    (try (rw [Lib.run_to_unsafe w ⟨b, 0, none⟩ Try.underlying57 Try.underlying87 hj (by rw [hjs]; decide) hsh (Nat.zero_lt_succ 1)]; simp only [Result.andThen]; rw [Oper.upon_value]; go_wp2))
    rw [run_callFunc_extern Try.func64 (by kernel_rfl) (by kernel_rfl) (by kernel_rfl) (e := Extern.AbiNoEscape.same) (by kernel_rfl)]
    rw [Lib.run_noEscape]
    simp only [Result.andThen]
    rw [Oper.upon_value]
    go_wp2
    (try (rw [Lib.run_from_unsafe w ⟨b, 0, none⟩ Try.underlying87 Try.underlying57 hj hsh X.liesBuilder]; simp only [Result.andThen]; rw [Oper.upon_value]; go_wp2))
    go_end0
    exact ⟨rfl, hu _, (Below.refl B w).setCell (p := ⟨b, 0, none⟩) hB _, hst⟩
  · have c0 := h.cell0
    go_enter Try.func59, Try.ntmps59
    go_wp2
    rw [Lib.run_neq_ptr_same w _ Try.underlying57 hj]
    go_wp2
    go_end0
    exact ⟨rfl, h, Below.refl B _, Stays.refl _ _⟩
set_option maxHeartbeats 2000000 in
set_option maxRecDepth 100000 in
theorem write2 (B b : Nat) (bs : List Value) (s : ByteArray) (w : World) (h : Lib.IsBuilder T 5 B b bs w) (hlen : bs.length + s.size ≤ 140737488355328) (hBw : B ≤ w.heap.size) :
    Calls Try.prog 41 #[.pointer (some ⟨b, 0, none⟩), .string s] w fun e w' => e = .returned (.tuple #[.int .i64 s.size, .nilIface]) ∧ Lib.IsBuilder T 5 B b (bs ++ Lib.strCells s) w' ∧ Below B w w' ∧ Stays b w w' := by
  have X := Try.Builder_Extra_169
  obtain ⟨i0, hi, hz0, hz1, hz2⟩ := info_parts X.infoByte
  go_enter Try.func41, Try.ntmps41
  go_wp2_with fail
  refine (check2 B b bs _ h).mono ?_
  rintro e w1 ⟨rfl, h1, hb1, hs1⟩
  obtain ⟨hB, v, hbk, hown, hne⟩ := h1
  have c0 : w1.cell? ⟨b, 0, none⟩ = some (.pointer (some ⟨b, 0, none⟩)) := by rw [Lib.cell_of_heap hbk]; rfl
  have c1 : w1.cell? ⟨b, 1, none⟩ = some v := by rw [Lib.cell_of_heap hbk]; rfl
  go_wp2_with (at_builtin; refine wpList_append_own_string_at _ rfl _ _ 55 9 rfl B 5 i0 Try.underlying55 Try.underlying9 hi hz0 hz1 hz2 _ _ _ rfl hown s rfl ?c3 ?c4 ?c5 ?_)
  case c3 => unfold maxLen; omega
  case c4 => omega
  case c5 => have := hb1.size; omega
  intro v' w2 hown' hgrow hat
  have hlt : b < w1.heap.size := by
    rcases Nat.lt_or_ge b w1.heap.size with h' | h'
    · exact h'
    · simp [Array.getElem?_eq_none h'] at hbk
  have hb2 : w2.heap[b]? = some (.cells #[.pointer (some ⟨b, 0, none⟩), v] T (0, 0)) := by
    rw [hgrow.block b hlt (fun e => hne e.symm)]
    exact hbk
  have hst := hs1.trans (stays_put hbk hgrow hat hb2)
  have d0 : w2.cell? ⟨b, 0, none⟩ = some (.pointer (some ⟨b, 0, none⟩)) := by rw [Lib.cell_of_heap hb2]; rfl
  have d1 : w2.cell? ⟨b, 1, none⟩ = some v := by rw [Lib.cell_of_heap hb2]; rfl
  have f1 : w2.frozen? ⟨b, 1, none⟩ = false := Lib.frozen_of_heap hb2 1
  obtain ⟨ao, n', cap, rfl⟩ : ∃ ao n' cap, v' = .slice ao n' cap := by
    rcases hown'.2 with ⟨hv, _⟩ | ⟨g, cap, cur, hv, _⟩
    · exact ⟨_, _, _, hv⟩
    · exact ⟨_, _, _, hv⟩
  go_wp2
  go_ret2
  refine ⟨rfl, .inr ?_, ?_, hst⟩
  · exact Lib.BuilderAt.put (T := T) (e := 5) hB hb2 (bs' := bs ++ Lib.strCells s) (by simpa [Lib.strCells_length] using hown') X.neB5
  · exact (hb1.grown hgrow (by have := hb1.size; omega) (fun k hk => (hown.lt k hk).1)).setCell (p := ⟨b, 1, none⟩) hB _
set_option maxHeartbeats 2000000 in
set_option maxRecDepth 100000 in
theorem writeByte2 (B b : Nat) (bs : List Value) (c : Int) (w : World) (h : Lib.IsBuilder T 5 B b bs w) (hlen : bs.length + 1 ≤ 140737488355328) (hBw : B ≤ w.heap.size) :
    Calls Try.prog 35 #[.pointer (some ⟨b, 0, none⟩), .int .u8 c] w fun e w' => e = .returned .nilIface ∧ Lib.IsBuilder T 5 B b (bs ++ [.int .u8 c]) w' ∧ Below B w w' ∧ Stays b w w' := by
  have X := Try.Builder_Extra_169
  obtain ⟨i0, hi, hz0, hz1, hz2⟩ := info_parts X.infoByte
  go_enter Try.func35, Try.ntmps35
  go_wp2_with fail
  refine (check2 B b bs _ h).mono ?_
  rintro e w1 ⟨rfl, h1, hb1, hs1⟩
  have hal := stays_alloc h1 (.cells #[.int .u8 c] 5)
  obtain ⟨hB, v, hbk, hown, hne⟩ := h1
  have c0 : w1.cell? ⟨b, 0, none⟩ = some (.pointer (some ⟨b, 0, none⟩)) := by rw [Lib.cell_of_heap hbk]; rfl
  have c1 : w1.cell? ⟨b, 1, none⟩ = some v := by rw [Lib.cell_of_heap hbk]; rfl
  have hlt : b < w1.heap.size := by
    rcases Nat.lt_or_ge b w1.heap.size with h' | h'
    · exact h'
    · simp [Array.getElem?_eq_none h'] at hbk
  go_wp2_with (at_builtin; refine wpList_append_own_at _ rfl _ _ 55 rfl B 5 i0 (.int .u8 0) 1 1 Try.underlying55 hi hz0 hz1 hz2 rfl (by decide) _ _ _ rfl (hown.alloc _) ⟨w1.heap.size, 0, none⟩ 1 1 [.int .u8 c] rfl rfl ?c1 ?c2 ?c3 ?c4 ?c5 ?_)
  case c1 =>
    intro j u hj
    cases j with
    | zero => simp at hj; subst hj; simp [Addr.add]
    | succ j => simp at hj
  case c2 => simp [Value.oneCell']
  case c3 => unfold maxLen; omega
  case c4 => omega
  case c5 => have := hb1.size; simp; omega
  intro v' w2 hown' hgrow _ hat
  have hbk' : (w1.alloc (.cells #[.int .u8 c] 5)).heap[b]? = some (.cells #[.pointer (some ⟨b, 0, none⟩), v] T (0, 0)) := (Lib.alloc_old w1 _ b hlt).trans hbk
  have hb2 : w2.heap[b]? = some (.cells #[.pointer (some ⟨b, 0, none⟩), v] T (0, 0)) := by
    rw [hgrow.block b (by simp; omega) (fun e => hne e.symm)]
    exact hbk'
  have hst := (hs1.trans hal).trans (stays_put hbk' hgrow (by simpa using hat) hb2)
  have d0 : w2.cell? ⟨b, 0, none⟩ = some (.pointer (some ⟨b, 0, none⟩)) := by rw [Lib.cell_of_heap hb2]; rfl
  have d1 : w2.cell? ⟨b, 1, none⟩ = some v := by rw [Lib.cell_of_heap hb2]; rfl
  have f1 : w2.frozen? ⟨b, 1, none⟩ = false := Lib.frozen_of_heap hb2 1
  obtain ⟨ao, n', cap, rfl⟩ : ∃ ao n' cap, v' = .slice ao n' cap := by
    rcases hown'.2 with ⟨hv, _⟩ | ⟨g, cap, cur, hv, _⟩
    · exact ⟨_, _, _, hv⟩
    · exact ⟨_, _, _, hv⟩
  go_wp2
  go_ret
  refine ⟨rfl, .inr ?_, ?_, hst⟩
  · exact Lib.BuilderAt.put (T := T) (e := 5) hB hb2 (bs' := bs ++ [.int .u8 c]) (by simpa using hown') X.neB5
  · exact ((hb1.alloc (by have := hb1.size; omega) _).grown hgrow (by have := hb1.size; simp; omega) (fun k hk => (hown.lt k hk).1)).setCell (p := ⟨b, 1, none⟩) hB _
end Go.Proofs.Ytgopphglkjdcaaa.Bld
