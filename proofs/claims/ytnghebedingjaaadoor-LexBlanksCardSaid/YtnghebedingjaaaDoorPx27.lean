-- Laid by wip/hprint.py: the kit's print of the translation, turned in places, beside contracts that this session wrote by hand; Lean checks all of it.
import Derived.Test.YtnghebedingjaaaDoorSq
import Derived.Test.YtnghebedingjaaaDoorPx0
import Derived.Test.YtnghebedingjaaaDoorPx5
import Derived.Test.YtnghebedingjaaaDoorPx6
import Derived.Test.YtnghebedingjaaaDoorPx7
import Derived.Test.YtnghebedingjaaaDoorPx8
import Derived.Test.YtnghebedingjaaaDoorPx18
import Derived.Test.YtnghebedingjaaaDoorPx28
namespace Go.Proofs.YtnghebedingjaaaDoor.Px
open Go.RowKit Go.Proofs.YtnghebedingjaaaDoorW.PrintWords Go.Proofs.YtnghebedingjaaaDoorW.PrintLast Go.Proofs.YtnghebedingjaaaDoorW.PrintMore
attribute [local go_sem] max2_int min2_int max_two min_two max_three min_three max_four min_four   -- for this text's walks alone
set_option linter.unusedVariables false
set_option linter.unusedSimpArgs false

/-! ### gonglaw14_LexBlanks: function 6 -/
mutual
def gonglaw14_LexBlanks.l0 : Nat → List ByteArray → List Int → List ByteArray → ByteArray → ByteArray → List ByteArray → Int → Int → Option (Bool)
 | 0, _, _, _, _, _, _, _, _ => none
 | k + 1, x0, x1, x5, x6, x7, x28, x29, x30 => if x30 < x29 then (if 0 ≤ x30 then (if x30 < (x28.length : Int) then ((gongbook_Cut.f (rdOf ByteArray.empty x28 x30) 50).bind fun t293 => ((lex_Quote.f t293).bind fun t294 => (if t294.size + 3 ≤ 9223372036854775807 then (if x6.size + (t294 ++ (⟨#[32, 59, 32]⟩ : ByteArray)).size ≤ 9223372036854775807 then (if x30 < (x1.length : Int) then ((gongbook_Below.f (rd x1 x30) 5).bind fun t296 => (if 0 ≤ t296 then (if t296 < (x5.length : Int) then (if t294.size + (rdOf ByteArray.empty x5 t296).size ≤ 9223372036854775807 then (if (t294 ++ (rdOf ByteArray.empty x5 t296)).size + 1 ≤ 9223372036854775807 then (if ((t294 ++ (rdOf ByteArray.empty x5 t296)) ++ (⟨#[59]⟩ : ByteArray)).size + (rdOf ByteArray.empty x5 t296).size ≤ 9223372036854775807 then (if x7.size + (((t294 ++ (rdOf ByteArray.empty x5 t296)) ++ (⟨#[59]⟩ : ByteArray)) ++ (rdOf ByteArray.empty x5 t296)).size ≤ 9223372036854775807 then (gonglaw14_LexBlanks.l0 k x0 x1 x5 (x6 ++ (t294 ++ (⟨#[32, 59, 32]⟩ : ByteArray))) (x7 ++ (((t294 ++ (rdOf ByteArray.empty x5 t296)) ++ (⟨#[59]⟩ : ByteArray)) ++ (rdOf ByteArray.empty x5 t296))) x28 x29 (wrap64 (x30 + 1))) else (none)) else (none)) else (none)) else (none)) else (none)) else (none))) else (if 0 < (x5.length : Int) then (if t294.size + (rdOf ByteArray.empty x5 0).size ≤ 9223372036854775807 then (if (t294 ++ (rdOf ByteArray.empty x5 0)).size + 1 ≤ 9223372036854775807 then (if ((t294 ++ (rdOf ByteArray.empty x5 0)) ++ (⟨#[59]⟩ : ByteArray)).size + (rdOf ByteArray.empty x5 0).size ≤ 9223372036854775807 then (if x7.size + (((t294 ++ (rdOf ByteArray.empty x5 0)) ++ (⟨#[59]⟩ : ByteArray)) ++ (rdOf ByteArray.empty x5 0)).size ≤ 9223372036854775807 then (gonglaw14_LexBlanks.l0 k x0 x1 x5 (x6 ++ (t294 ++ (⟨#[32, 59, 32]⟩ : ByteArray))) (x7 ++ (((t294 ++ (rdOf ByteArray.empty x5 0)) ++ (⟨#[59]⟩ : ByteArray)) ++ (rdOf ByteArray.empty x5 0))) x28 x29 (wrap64 (x30 + 1))) else (none)) else (none)) else (none)) else (none)) else (none))) else (none)) else (none)))) else (none)) else (none)) else ((lex_Split.f x6).bind fun bt301 => ((lex_Split.f x7).bind fun bt306 => (if bt301.2.2 = 0 then (if bt306.2.2 = 0 then ((gonglaw14_alike.f k bt301.1 bt306.1).bind fun t311 => (if t311 = true then (gonglaw14_LexBlanks.j1 k x0 x7 bt301.1 bt306.1 ((bt301.1.length : Int) != (wrap64 (2 * (x0.length : Int))))) else (gonglaw14_LexBlanks.j1 k x0 x7 bt301.1 bt306.1 true))) else (gonglaw14_LexBlanks.j1 k x0 x7 bt301.1 bt306.1 true)) else (gonglaw14_LexBlanks.j1 k x0 x7 bt301.1 bt306.1 true))))
def gonglaw14_LexBlanks.j1 : Nat → List ByteArray → ByteArray → List (S25) → List (S25) → Bool → Option (Bool)
 | 0, _, _, _, _, _ => none
 | k + 1, x0, x7, x12, x15, x97 => if x97 = true then (some false) else (gonglaw14_LexBlanks.l1 k x0 x7 x12 x15 (x15.length : Int) 0)
def gonglaw14_LexBlanks.l1 : Nat → List ByteArray → ByteArray → List (S25) → List (S25) → Int → Int → Option (Bool)
 | 0, _, _, _, _, _, _ => none
 | k + 1, x0, x7, x12, x15, x99, x100 => if x100 < x99 then (if 0 ≤ x100 then (if x100 < (x12.length : Int) then (if ((rd_T25 x12 x100).f2) = 1 then (if x100 > 0 then (if x100 < (x15.length : Int) then (if 0 ≤ (wrap64 (x100 - 1)) then (if (wrap64 (x100 - 1)) < (x15.length : Int) then (if ((rd_T25 x15 x100).f2) < ((rd_T25 x15 (wrap64 (x100 - 1))).f2) then (gonglaw14_LexBlanks.j3 k x0 x7 x12 x15 x100 x99 x100 true) else (if ((rd_T25 x15 x100).f2) < 3 then (gonglaw14_LexBlanks.j3 k x0 x7 x12 x15 x100 x99 x100 true) else ((strings_Count.f x7 (⟨#[10]⟩ : ByteArray)).bind fun t317 => (gonglaw14_LexBlanks.j3 k x0 x7 x12 x15 x100 x99 x100 (decide (((rd_T25 x15 x100).f2) > (wrap64 (1 + t317)))))))) else (none)) else (none)) else (none)) else (if x100 < (x15.length : Int) then (if ((rd_T25 x15 x100).f2) < 3 then (gonglaw14_LexBlanks.j3 k x0 x7 x12 x15 x100 x99 x100 true) else ((strings_Count.f x7 (⟨#[10]⟩ : ByteArray)).bind fun t320 => (gonglaw14_LexBlanks.j3 k x0 x7 x12 x15 x100 x99 x100 (decide (((rd_T25 x15 x100).f2) > (wrap64 (1 + t320))))))) else (none))) else (gonglaw14_LexBlanks.j3 k x0 x7 x12 x15 x100 x99 x100 true)) else (none)) else (none)) else (some true)
def gonglaw14_LexBlanks.j3 : Nat → List ByteArray → ByteArray → List (S25) → List (S25) → Int → Int → Int → Bool → Option (Bool)
 | 0, _, _, _, _, _, _, _, _ => none
 | k + 1, x0, x7, x12, x15, x18, x99, x100, x145 => if x145 = true then (some false) else (if (Int.tmod x18 2) = 0 then (if 0 ≤ x18 then (if x18 < (x12.length : Int) then (if ((rd_T25 x12 x18).f0) = 4 then (if 0 ≤ (wrap64 (Int.tdiv x18 2)) then (if (wrap64 (Int.tdiv x18 2)) < (x0.length : Int) then ((gongbook_Cut.f (rdOf ByteArray.empty x0 (wrap64 (Int.tdiv x18 2))) 50).bind fun t324 => (if ((rd_T25 x12 x18).f1).toList = t324.toList then (gonglaw14_LexBlanks.l1 k x0 x7 x12 x15 x99 (wrap64 (x100 + 1))) else (some false))) else (none)) else (none)) else (some false)) else (none)) else (none)) else (gonglaw14_LexBlanks.l1 k x0 x7 x12 x15 x99 (wrap64 (x100 + 1))))
end
def gonglaw14_LexBlanks.f (k : Nat) (l0 : List ByteArray) (l1 : List Int) : Option (Bool) := (gonglaw14_works.f k).bind fun t287 => (if t287 = true then (if (l0.length : Int) > 100 then (some true) else ((some (([(⟨#[32]⟩ : ByteArray), (⟨#[10]⟩ : ByteArray), (⟨#[9, 13, 10, 32]⟩ : ByteArray), (⟨#[32, 35, 32, 114, 101, 109, 97, 114, 107, 32, 34, 32, 123, 32, 10]⟩ : ByteArray), (⟨#[35, 10, 35, 10]⟩ : ByteArray)] : List ByteArray) : List ByteArray)).bind fun y288 => (if 4 < (y288.length : Int) then (gonglaw14_LexBlanks.l0 k l0 l1 y288 (⟨#[]⟩ : ByteArray) (rdOf ByteArray.empty y288 4) l0 (l0.length : Int) 0) else (none)))) else (some false))
theorem gonglaw14_LexBlanks.mono_l : ∀ k, (∀ y0 y1 y2 y3 y4 y5 y6 y7, LeO (gonglaw14_LexBlanks.l0 k y0 y1 y2 y3 y4 y5 y6 y7) (gonglaw14_LexBlanks.l0 (k + 1) y0 y1 y2 y3 y4 y5 y6 y7)) ∧ (∀ y0 y1 y2 y3 y4, LeO (gonglaw14_LexBlanks.j1 k y0 y1 y2 y3 y4) (gonglaw14_LexBlanks.j1 (k + 1) y0 y1 y2 y3 y4)) ∧ (∀ y0 y1 y2 y3 y4 y5, LeO (gonglaw14_LexBlanks.l1 k y0 y1 y2 y3 y4 y5) (gonglaw14_LexBlanks.l1 (k + 1) y0 y1 y2 y3 y4 y5)) ∧ (∀ y0 y1 y2 y3 y4 y5 y6 y7, LeO (gonglaw14_LexBlanks.j3 k y0 y1 y2 y3 y4 y5 y6 y7) (gonglaw14_LexBlanks.j3 (k + 1) y0 y1 y2 y3 y4 y5 y6 y7))
 | 0 => ⟨fun _ _ _ _ _ _ _ _ r h => by simp [gonglaw14_LexBlanks.l0] at h, fun _ _ _ _ _ r h => by simp [gonglaw14_LexBlanks.j1] at h, fun _ _ _ _ _ _ r h => by simp [gonglaw14_LexBlanks.l1] at h, fun _ _ _ _ _ _ _ _ r h => by simp [gonglaw14_LexBlanks.j3] at h⟩
 | k + 1 => by
  obtain ⟨ih0, ih1, ih2, ih3⟩ := gonglaw14_LexBlanks.mono_l k
  refine ⟨?_, ?_, ?_, ?_⟩
  ·intro y0 y1 y2 y3 y4 y5 y6 y7
   unfold gonglaw14_LexBlanks.l0
   repeat' first
   | (with_reducible exact ih0 _ _ _ _ _ _ _ _)
   | (with_reducible exact ih1 _ _ _ _ _)
   | (with_reducible exact ih2 _ _ _ _ _ _)
   | (with_reducible exact ih3 _ _ _ _ _ _ _ _)
   | (with_reducible exact gonglaw14_alike.mono _ _ _)
   | (with_reducible exact gonglaw14_works.mono _)
   | (with_reducible exact LeO.refl _)
   | (with_reducible exact LeO.none _)
   | (with_reducible refine LeO.ite ?_ ?_)
   | (with_reducible refine LeO.bind ?_ (fun _ => ?_))
   | exact ih0 _ _ _ _ _ _ _ _
   | exact ih1 _ _ _ _ _
   | exact ih2 _ _ _ _ _ _
   | exact ih3 _ _ _ _ _ _ _ _
   | exact gonglaw14_alike.mono _ _ _
   | exact gonglaw14_works.mono _
   | exact LeO.none _
   | refine LeO.ite ?_ ?_
   | refine LeO.bind ?_ (fun _ => ?_)
  ·intro y0 y1 y2 y3 y4
   unfold gonglaw14_LexBlanks.j1
   repeat' first
   | (with_reducible exact ih0 _ _ _ _ _ _ _ _)
   | (with_reducible exact ih1 _ _ _ _ _)
   | (with_reducible exact ih2 _ _ _ _ _ _)
   | (with_reducible exact ih3 _ _ _ _ _ _ _ _)
   | (with_reducible exact gonglaw14_alike.mono _ _ _)
   | (with_reducible exact gonglaw14_works.mono _)
   | (with_reducible exact LeO.refl _)
   | (with_reducible exact LeO.none _)
   | (with_reducible refine LeO.ite ?_ ?_)
   | (with_reducible refine LeO.bind ?_ (fun _ => ?_))
   | exact ih0 _ _ _ _ _ _ _ _
   | exact ih1 _ _ _ _ _
   | exact ih2 _ _ _ _ _ _
   | exact ih3 _ _ _ _ _ _ _ _
   | exact gonglaw14_alike.mono _ _ _
   | exact gonglaw14_works.mono _
   | exact LeO.none _
   | refine LeO.ite ?_ ?_
   | refine LeO.bind ?_ (fun _ => ?_)
  ·intro y0 y1 y2 y3 y4 y5
   unfold gonglaw14_LexBlanks.l1
   repeat' first
   | (with_reducible exact ih0 _ _ _ _ _ _ _ _)
   | (with_reducible exact ih1 _ _ _ _ _)
   | (with_reducible exact ih2 _ _ _ _ _ _)
   | (with_reducible exact ih3 _ _ _ _ _ _ _ _)
   | (with_reducible exact gonglaw14_alike.mono _ _ _)
   | (with_reducible exact gonglaw14_works.mono _)
   | (with_reducible exact LeO.refl _)
   | (with_reducible exact LeO.none _)
   | (with_reducible refine LeO.ite ?_ ?_)
   | (with_reducible refine LeO.bind ?_ (fun _ => ?_))
   | exact ih0 _ _ _ _ _ _ _ _
   | exact ih1 _ _ _ _ _
   | exact ih2 _ _ _ _ _ _
   | exact ih3 _ _ _ _ _ _ _ _
   | exact gonglaw14_alike.mono _ _ _
   | exact gonglaw14_works.mono _
   | exact LeO.none _
   | refine LeO.ite ?_ ?_
   | refine LeO.bind ?_ (fun _ => ?_)
  ·intro y0 y1 y2 y3 y4 y5 y6 y7
   unfold gonglaw14_LexBlanks.j3
   repeat' first
   | (with_reducible exact ih0 _ _ _ _ _ _ _ _)
   | (with_reducible exact ih1 _ _ _ _ _)
   | (with_reducible exact ih2 _ _ _ _ _ _)
   | (with_reducible exact ih3 _ _ _ _ _ _ _ _)
   | (with_reducible exact gonglaw14_alike.mono _ _ _)
   | (with_reducible exact gonglaw14_works.mono _)
   | (with_reducible exact LeO.refl _)
   | (with_reducible exact LeO.none _)
   | (with_reducible refine LeO.ite ?_ ?_)
   | (with_reducible refine LeO.bind ?_ (fun _ => ?_))
   | exact ih0 _ _ _ _ _ _ _ _
   | exact ih1 _ _ _ _ _
   | exact ih2 _ _ _ _ _ _
   | exact ih3 _ _ _ _ _ _ _ _
   | exact gonglaw14_alike.mono _ _ _
   | exact gonglaw14_works.mono _
   | exact LeO.none _
   | refine LeO.ite ?_ ?_
   | refine LeO.bind ?_ (fun _ => ?_)
theorem gonglaw14_LexBlanks.mono : ∀ a0 a1 k, LeO (gonglaw14_LexBlanks.f k a0 a1) (gonglaw14_LexBlanks.f (k + 1) a0 a1) := by
 intro a0 a1 k
 obtain ⟨ih0, ih1, ih2, ih3⟩ := gonglaw14_LexBlanks.mono_l k
 unfold gonglaw14_LexBlanks.f
 repeat' first
   | (with_reducible exact ih0 _ _ _ _ _ _ _ _)
   | (with_reducible exact ih1 _ _ _ _ _)
   | (with_reducible exact ih2 _ _ _ _ _ _)
   | (with_reducible exact ih3 _ _ _ _ _ _ _ _)
   | (with_reducible exact gonglaw14_alike.mono _ _ _)
   | (with_reducible exact gonglaw14_works.mono _)
   | (with_reducible exact LeO.refl _)
   | (with_reducible exact LeO.none _)
   | (with_reducible refine LeO.ite ?_ ?_)
   | (with_reducible refine LeO.bind ?_ (fun _ => ?_))
   | exact ih0 _ _ _ _ _ _ _ _
   | exact ih1 _ _ _ _ _
   | exact ih2 _ _ _ _ _ _
   | exact ih3 _ _ _ _ _ _ _ _
   | exact gonglaw14_alike.mono _ _ _
   | exact gonglaw14_works.mono _
   | exact LeO.none _
   | refine LeO.ite ?_ ?_
   | refine LeO.bind ?_ (fun _ => ?_)
def gonglaw14_LexBlanks.T15 : Bool × List (List Nat × List Nat) := (true, [([], []), ([], []), ([], []), ([], []), ([2, 3], [2, 3]), ([4], [4]), ([1, 5], [1, 5]), ([6], [6]), ([], []), ([], []), ([8, 9], [8, 9]), ([10], [10]), ([7, 11], [7, 11]), ([0, 12], [0, 12]), ([13, 0, 1, 2, 3, 4, 5, 6, 7, 8, 9, 10, 11, 12, 13], [0, 13])])
def gonglaw14_LexBlanks.B15 : List Nat := [0, 0, 0, 0, 12, 28, 62, 126, 0, 0, 768, 1792, 4094, 8191, 16383]
theorem gonglaw14_LexBlanks.tab15 : rtab .any (opsOf Tryd.f6 15) = gonglaw14_LexBlanks.T15 := by kernel_rfl
theorem gonglaw14_LexBlanks.bits15 : waitsOk gonglaw14_LexBlanks.T15.2 gonglaw14_LexBlanks.B15 = true := by kernel_rfl
def gonglaw14_LexBlanks.T24 : Bool × List (List Nat × List Nat) := (true, [([], []), ([], []), ([0, 1], [0, 1]), ([2], [2]), ([3], [3]), ([4], [4]), ([5], [5]), ([6], [6]), ([7, 6], [6, 7]), ([8, 6, 6], [6, 8]), ([9], [9]), ([9], [9]), ([10, 11, 9], [9, 10, 11]), ([12, 9], [9, 12]), ([13, 9], [9, 13]), ([9], [9]), ([9], [9]), ([16, 9], [9, 16]), ([15, 17, 9], [9, 15, 17]), ([18, 9], [9, 18]), ([19, 9], [9, 19]), ([14, 20, 9], [9, 14, 20]), ([9, 21, 6], [6, 9, 21]), ([6, 22], [6, 22]), ([23, 9], [23]), ([24], [24]), ([24], [24]), ([25, 26, 24], [24, 25, 26]), ([27, 24], [24, 27]), ([28, 24], [24, 28]), ([29, 24], [24, 29]), ([24, 30], [24, 30]), ([31, 24], [31]), ([32], [32]), ([32], [32]), ([33, 34, 32], [32, 33, 34]), ([35, 32], [32, 35]), ([36, 32], [32, 36]), ([32], [32]), ([38, 32, 32], [32, 38]), ([39, 32], [32, 39]), ([37, 40, 32], [32, 37, 40]), ([32, 41], [32, 41])])
def gonglaw14_LexBlanks.B24 : List Nat := [0, 0, 3, 7, 15, 31, 63, 127, 255, 511, 1023, 1023, 4095, 8191, 16383, 1023, 1023, 66559, 230399, 492543, 1016831, 2097151, 4194303, 8388607, 16777215, 33554431, 33554431, 134217727, 268435455, 536870911, 1073741823, 2147483647, 4294967295, 8589934591, 8589934591, 34359738367, 68719476735, 137438953471, 8589934591, 283467841535, 833223655423, 2199023255551, 4398046511103]
theorem gonglaw14_LexBlanks.tab24 : rtab .any (opsOf Tryd.f6 24) = gonglaw14_LexBlanks.T24 := by kernel_rfl
theorem gonglaw14_LexBlanks.bits24 : waitsOk gonglaw14_LexBlanks.T24.2 gonglaw14_LexBlanks.B24 = true := by kernel_rfl
def gonglaw14_LexBlanks.T26 : Bool × List (List Nat × List Nat) := (true, [([], []), ([0], [0]), ([1], [1]), ([2], [2]), ([3], [3]), ([3], [3]), ([4, 5, 3], [3, 4, 5]), ([6, 3], [3, 6]), ([7, 3], [3, 7]), ([8, 3], [3, 8]), ([9, 3, 3], [3, 9]), ([10], [10]), ([10], [10]), ([11, 12, 10], [10, 11, 12]), ([13, 10], [10, 13]), ([14, 10], [10, 14]), ([10], [10]), ([10], [10]), ([17, 10], [10, 17]), ([16, 18, 10], [10, 16, 18]), ([19, 10], [10, 19]), ([20, 10, 10], [10, 20]), ([15, 21, 10], [10, 15, 21]), ([10, 22, 3], [3, 10, 22]), ([3, 23], [3, 23])])
def gonglaw14_LexBlanks.B26 : List Nat := [0, 1, 3, 7, 15, 15, 63, 127, 255, 511, 1023, 2047, 2047, 8191, 16383, 32767, 2047, 2047, 133119, 460799, 985087, 2033663, 4194303, 8388607, 16777215]
theorem gonglaw14_LexBlanks.tab26 : rtab .any (opsOf Tryd.f6 26) = gonglaw14_LexBlanks.T26 := by kernel_rfl
theorem gonglaw14_LexBlanks.bits26 : waitsOk gonglaw14_LexBlanks.T26.2 gonglaw14_LexBlanks.B26 = true := by kernel_rfl
set_option maxHeartbeats 8000000 in
set_option maxRecDepth 100000 in
theorem gonglaw14_LexBlanks.calls (k : Nat) (A0 : Option Addr) (c0 : Nat) (l0 : List ByteArray) (A1 : Option Addr) (c1 : Nat) (l1 : List Int) (r : Bool) (w : World) (hr0 : Kd.C Kd.string w A0 l0.length l0) (hc0 : l0.length ≤ c0) (hr1 : Kd.C (Kd.int .i64) w A1 l1.length l1) (hc1 : l1.length ≤ c1) (h : gonglaw14_LexBlanks.f k l0 l1 = some r) :
  Calls Tryd.prog 6 #[.slice A0 l0.length c0, .slice A1 l1.length c1] w fun e w' => e = .returned (.bool r) ∧ Below w.heap.size w w' := by
 have HR0 := Aside0.mk hr0
 have HC0 := Aside0.mk hc0
 clear hr0 hc0
 have HR1 := Aside0.mk hr1
 have HC1 := Aside0.mk hc1
 clear hr1 hc1
 have HB := Aside0.mk (Below.refl w.heap.size w)
 have H : ((gonglaw14_works.f k).bind fun t287 => (if t287 = true then (if (l0.length : Int) > 100 then (some true) else ((some (([(⟨#[32]⟩ : ByteArray), (⟨#[10]⟩ : ByteArray), (⟨#[9, 13, 10, 32]⟩ : ByteArray), (⟨#[32, 35, 32, 114, 101, 109, 97, 114, 107, 32, 34, 32, 123, 32, 10]⟩ : ByteArray), (⟨#[35, 10, 35, 10]⟩ : ByteArray)] : List ByteArray) : List ByteArray)).bind fun y288 => (if 4 < (y288.length : Int) then (gonglaw14_LexBlanks.l0 k l0 l1 y288 (⟨#[]⟩ : ByteArray) (rdOf ByteArray.empty y288 4) l0 (l0.length : Int) 0) else (none)))) else (some false))) = some r := h
 clear h
 replace H := Option.bind_eq_some_iff.mp H
 obtain ⟨t287, A30, H⟩ := H
 replace H : (if t287 = true then (if (l0.length : Int) > 100 then (some true) else ((some (([(⟨#[32]⟩ : ByteArray), (⟨#[10]⟩ : ByteArray), (⟨#[9, 13, 10, 32]⟩ : ByteArray), (⟨#[32, 35, 32, 114, 101, 109, 97, 114, 107, 32, 34, 32, 123, 32, 10]⟩ : ByteArray), (⟨#[35, 10, 35, 10]⟩ : ByteArray)] : List ByteArray) : List ByteArray)).bind fun y288 => (if 4 < (y288.length : Int) then (gonglaw14_LexBlanks.l0 k l0 l1 y288 (⟨#[]⟩ : ByteArray) (rdOf ByteArray.empty y288 4) l0 (l0.length : Int) 0) else (none)))) else (some false)) = some r := H
 have A3 := Aside0.mk A30
 clear A30
 by_cases c4 : t287 = true
 ·subst c4
  have H1 : (if (l0.length : Int) > 100 then (some true) else ((some (([(⟨#[32]⟩ : ByteArray), (⟨#[10]⟩ : ByteArray), (⟨#[9, 13, 10, 32]⟩ : ByteArray), (⟨#[32, 35, 32, 114, 101, 109, 97, 114, 107, 32, 34, 32, 123, 32, 10]⟩ : ByteArray), (⟨#[35, 10, 35, 10]⟩ : ByteArray)] : List ByteArray) : List ByteArray)).bind fun y288 => (if 4 < (y288.length : Int) then (gonglaw14_LexBlanks.l0 k l0 l1 y288 (⟨#[]⟩ : ByteArray) (rdOf ByteArray.empty y288 4) l0 (l0.length : Int) 0) else (none)))) = some r := by rw [if_pos rfl] at H; exact H
  clear H
  have H := H1
  clear H1
  by_cases c5 : (l0.length : Int) > 100
  ·rw [if_pos c5] at H
   have c5b0 : decide (100 < (l0.length : Int)) = true := decide_eq_true c5
   have c5b1 : decide (100 < l0.length) = true := decide_eq_true (by omega)
   clear c5
   obtain rfl := Option.some.inj H
   go_enter Tryd.func6, Tryd.ntmps6
   go_wp2_with (first | ((with_reducible refine gate_callee (f := 7) rfl ?_); refine goesL_ (some 19) rfl rfl Tryd.func7 (by kernel_rfl) rfl #[] rfl (by (try simp only [List.map_toArray, List.map_cons, List.map_nil]); first | done | rfl | (simp only [List.length_drop, List.length_take]; rfl)) ?_; (with_reducible refine (gonglaw14_works.calls k  true _ A3.out).mono ?_); rintro e w6 ⟨rfl, hb⟩; refine ⟨_, rfl, ?_⟩; have n0_ := Aside0.mk (below_step (by repeat (first | (with_reducible first | exact HB.out | apply below_alloc | apply pw_below_drewN | apply below_drew1) | exact HB.out)) hb); clear HB; have HB := n0_; clear n0_; (try clear hb); (try clear hb2); (try clear hk); (try clear hi)))
   go_ret
   exact ⟨by first | rfl | (simp [errW_none, errW_some] <;> rfl) | (simp [*, errW_none, errW_some] <;> rfl), by repeat (first | (with_reducible first | exact HB.out | apply below_alloc | apply pw_below_drewN | apply below_drew1) | exact HB.out)⟩
  ·rw [if_neg c5] at H
   have c5b0 : decide (100 < (l0.length : Int)) = false := decide_eq_false c5
   have c5b1 : decide (100 < l0.length) = false := decide_eq_false (by omega)
   clear c5
   obtain ⟨y288, hy288⟩ : ∃ y_ : List ByteArray, y_ = (([(⟨#[32]⟩ : ByteArray), (⟨#[10]⟩ : ByteArray), (⟨#[9, 13, 10, 32]⟩ : ByteArray), (⟨#[32, 35, 32, 114, 101, 109, 97, 114, 107, 32, 34, 32, 123, 32, 10]⟩ : ByteArray), (⟨#[35, 10, 35, 10]⟩ : ByteArray)] : List ByteArray)) := ⟨_, rfl⟩
   replace H : (if 4 < (y288.length : Int) then (gonglaw14_LexBlanks.l0 k l0 l1 y288 (⟨#[]⟩ : ByteArray) (rdOf ByteArray.empty y288 4) l0 (l0.length : Int) 0) else (none)) = some r := by first | (rw [hy288]; with_reducible exact H) | (have H2_ := (Option.bind_some _ _).symm.trans H; rw [hy288]; with_reducible exact H2_) | (have H2_ := (Option.bind_some _ _).symm.trans H; with_reducible exact H2_) | with_reducible exact H | (rw [hy288]; exact H) | exact H
   have Ny288 := Aside0.mk hy288
   clear hy288
   by_cases c7 : 4 < (y288.length : Int)
   ·rw [if_pos c7] at H
    have c7b0 : decide (4 < (y288.length : Int)) = true := decide_eq_true c7
    have c7b1 : decide (4 < y288.length) = true := decide_eq_true (by omega)
    clear c7
    have H' := Aside0.mk H
    clear H
    go_enter Tryd.func6, Tryd.ntmps6
    try go_wp2_with (first | ((with_reducible refine gate_callee (f := 7) rfl ?_); refine goesL_ (some 19) rfl rfl Tryd.func7 (by kernel_rfl) rfl #[] rfl (by (try simp only [List.map_toArray, List.map_cons, List.map_nil]); first | done | rfl | (simp only [List.length_drop, List.length_take]; rfl)) ?_; (with_reducible refine (gonglaw14_works.calls k  true _ A3.out).mono ?_); rintro e w8 ⟨rfl, hb⟩; refine ⟨_, rfl, ?_⟩; have n0_ := Aside0.mk (below_step (by repeat (first | (with_reducible first | exact HB.out | apply below_alloc | apply pw_below_drewN | apply below_drew1) | exact HB.out)) hb); clear HB; have HB := n0_; clear n0_; (try clear hb); (try clear hb2); (try clear hk); (try clear hi)) | ((with_reducible refine gate_dst (N := 24) rfl ?_); (try (refine gate_guard (by rfl) ?_; dsimp only)); refine Kd.R_lit Kd.string _ 9 ?hg (N := 24) ?hd (xs := ([(⟨#[32]⟩ : ByteArray), (⟨#[10]⟩ : ByteArray), (⟨#[9, 13, 10, 32]⟩ : ByteArray), (⟨#[32, 35, 32, 114, 101, 109, 97, 114, 107, 32, 34, 32, 123, 32, 10]⟩ : ByteArray), (⟨#[35, 10, 35, 10]⟩ : ByteArray)] : List ByteArray)) (inner := [.string (⟨#[32]⟩ : ByteArray), .string (⟨#[10]⟩ : ByteArray), .string (⟨#[9, 13, 10, 32]⟩ : ByteArray), .string (⟨#[32, 35, 32, 114, 101, 109, 97, 114, 107, 32, 34, 32, 123, 32, 10]⟩ : ByteArray), .string (⟨#[35, 10, 35, 10]⟩ : ByteArray)]) (ok := fun _ => True) (okp := fun _ => True) ?hr ?hp (fun _ hk => hk) trivial (Below.refl _ _) (Nat.le_refl _) (by simp) ?_; (case hd => rfl); (case hg => rfl); (case hr => first | (go_simp; done) | (go_simp; rfl)); (case hp => exact (Reps.one (show Kd.M Kd.string _ _ _ (⟨#[32]⟩ : ByteArray) [.string (⟨#[32]⟩ : ByteArray)] from rfl) (Reps.one (show Kd.M Kd.string _ _ _ (⟨#[10]⟩ : ByteArray) [.string (⟨#[10]⟩ : ByteArray)] from rfl) (Reps.one (show Kd.M Kd.string _ _ _ (⟨#[9, 13, 10, 32]⟩ : ByteArray) [.string (⟨#[9, 13, 10, 32]⟩ : ByteArray)] from rfl) (Reps.one (show Kd.M Kd.string _ _ _ (⟨#[32, 35, 32, 114, 101, 109, 97, 114, 107, 32, 34, 32, 123, 32, 10]⟩ : ByteArray) [.string (⟨#[32, 35, 32, 114, 101, 109, 97, 114, 107, 32, 34, 32, 123, 32, 10]⟩ : ByteArray)] from rfl) (Reps.one (show Kd.M Kd.string _ _ _ (⟨#[35, 10, 35, 10]⟩ : ByteArray) [.string (⟨#[35, 10, 35, 10]⟩ : ByteArray)] from rfl) (Reps.none _ _))))))); intro v289 w9 ho10 hb hg_ hnew_; clear hg_ hnew_; (first | rw [← Ny288.out] at ho10 | (simp only [Int.reduceToNat] at ho10; rw [← Ny288.out] at ho10)); have n0_ := Aside0.mk (Kd.R_lower ho10 (below_size (by repeat (first | (with_reducible first | exact HB.out | apply below_alloc | apply pw_below_drewN | apply below_drew1) | exact HB.out)))); have n1_ := Aside0.mk (below_step (by repeat (first | (with_reducible first | exact HB.out | apply below_alloc | apply pw_below_drewN | apply below_drew1) | exact HB.out)) hb); clear HB; have HO290 := n0_; have HB := n1_; clear n0_ n1_; clear hb ho10))
    have n0_ := Aside0.mk (Kd.R_drew HO290.out)
    have n1_ := Aside0.mk (below_drew1 HB.out)
    clear HO290
    clear HB
    have HO290 := n0_
    have HB := n1_
    clear n0_ n1_
    obtain ⟨Ao12, co12, eo12⟩ := Kd.R_slice HO290.out
    (first | subst eo12 | (injection eo12 with f1_ f2_ f3_; have f4_ := f1_.symm; have f5_ := f3_.symm; clear f1_ f2_ f3_; subst f4_; subst f5_))
    have p291 : 0 ≤ (4 : Int) := (by omega)
    have q291 : 4 < (y288.length : Int) := of_decide_eq_true (by first | (with_reducible assumption) | assumption)
    obtain ⟨ad291, e291, hx291_0⟩ := Kd.at_string (Kd.R_reads' HO290.out).2.2 4 p291 q291
    cases e291
    (try simp only [show (4 : Int).toNat = 4 from rfl, Nat.reduceMul, Nat.reduceEqDiff, Go.Addr.add, ↓reduceIte] at hx291_0)
    have qi291 : (4 < y288.length) = True := eq_true (by omega)
    (try rw [show ((4 : Int)).toNat = 4 from rfl] at hx291_0)
    replace p291 := eq_true p291
    replace q291 := eq_true q291
    refine start_ (n := 5) (S := fun w' => w'.cell? ⟨ad291.block, ad291.off + 4, none⟩ = some (.string (rdOf ByteArray.empty y288 4))) (ds := []) #[false, false, false, false, false] (by kernel_rfl) rfl rfl (hx291_0) (fun hHeld => ?_)
    generalize w9.drew = w11 at HO290 HB hx291_0 hHeld ⊢
    refine pure_ (i := 0) (N := some 25) (v := ?_) (a' := ?_) (bz_ 5 1) rfl rfl (by kernel_rfl) (fun _ _ _ h => h) (Or.inl ⟨by rfl, ?_⟩) ?_ ?_
    rotate_left; intro w'; go_simp; with_reducible rfl; rotate_left; simp only [Act.put, s1_, s2_, s3_, i64_w, i32_w]; rfl
    refine pure_ (i := 1) (N := some 26) (v := ?_) (a' := ?_) (bz_ 5 3) rfl rfl (by kernel_rfl) (fun _ _ _ h => h) (Or.inl ⟨by rfl, ?_⟩) ?_ ?_
    rotate_left; intro w'; go_simp; with_reducible rfl; rotate_left; simp only [Act.put, s1_, s2_, s3_, i64_w, i32_w]; rfl
    refine pure_ (i := 3) (N := some 6) (v := ?_) (a' := ?_) (bz_ 5 11) rfl rfl (by kernel_rfl) (fun _ _ _ h => h) (Or.inl ⟨by rfl, ?_⟩) ?_ ?_
    rotate_left; intro w'; go_simp; with_reducible rfl; rotate_left; simp only [Act.put, s1_, s2_, s3_, i64_w, i32_w]; rfl
    refine take_ (i := 2) (N := some 27) (v := ?_) (a' := ?_) #[true, true, true, true, false] rfl rfl (by kernel_rfl) (fun _ _ _ h => h) (Or.inl ⟨by rfl, ?_⟩) hHeld ?_ ?_
    rotate_left
    ·intro w' s0
     go_simp
     with_reducible rfl
    rotate_left
    ·simp only [Act.put, s1_, s2_, s3_, i64_w, i32_w]; rfl
    refine pure_ (i := 4) (N := some 7) (v := ?_) (a' := ?_) (bz_ 5 31) rfl rfl (by kernel_rfl) (fun _ _ _ h => h) (Or.inl ⟨by rfl, ?_⟩) ?_ ?_
    rotate_left; intro w'; go_simp; with_reducible rfl; rotate_left; simp only [Act.put, s1_, s2_, s3_, i64_w, i32_w]; rfl
    refine done_ (by kernel_rfl) ?_
    try go_wp2
    go_loopg [6, 7, 30] k (fun kq v6 v7 v30 w' => ∃ (x6_1 : ByteArray) (x7_1 : ByteArray) (x30_1 : Int), v6 = .string x6_1 ∧ v7 = .string x7_1 ∧ v30 = .int .i64 x30_1 ∧ Aside0 (gonglaw14_LexBlanks.l0 kq l0 l1 y288 x6_1 x7_1 l0 (l0.length : Int) x30_1 = some r) ∧ Aside0 (kq ≤ k) ∧ Aside0 (Kd.R Kd.string 9 w' w.heap.size (fun _ => True) (.slice (some ad291) y288.length co12) y288) ∧ Aside0 (Below w.heap.size w w'))
    case atStart => exact ⟨((⟨#[]⟩ : ByteArray)), (rdOf ByteArray.empty y288 4), (0), (by first | rfl | (simp; done) | (simp [*]; done)), (by first | rfl | (simp; done) | (simp [*]; done)), (by first | rfl | (simp; done) | (simp [*]; done)), H', ⟨Nat.le_refl _⟩, ⟨by (with_reducible repeat (first | apply Kd.R_alloc | apply Kd.R_drewN | apply Kd.R_drew)); exact HO290.out⟩, ⟨by repeat (first | (with_reducible first | exact HB.out | apply below_alloc | apply pw_below_drewN | apply below_drew1) | exact HB.out)⟩⟩
    case round =>
     clear H'
     try clear c1
     try clear p2
     try clear q2
     try clear hx2
     try clear qi2
     try clear c4
     try clear c5
     try clear c5b0
     try clear c5b1
     try clear c6
     try clear c7
     try clear c7b0
     try clear c7b1
     try clear hx291_0
     try clear p291
     try clear q291
     obtain ⟨x6_1, x7_1, x30_1, rfl, rfl, rfl, HA, HK1, HO_5, HB⟩ := hrel
     cases gk with
     | zero => exact absurd HA.out (by simp [gonglaw14_LexBlanks.l0])
     | succ k1 =>
      have H := HA.out
      clear HA
      simp only [gonglaw14_LexBlanks.l0] at H
      by_cases c13 : x30_1 < (l0.length : Int)
      ·rw [if_pos c13] at H
       have c13b0 : decide (x30_1 < (l0.length : Int)) = true := decide_eq_true c13
       clear c13
       by_cases c14 : 0 ≤ x30_1
       ·rw [if_pos c14] at H
        have c14b0 : decide (0 ≤ x30_1) = true := decide_eq_true c14
        clear c14
        by_cases c15 : x30_1 < (l0.length : Int)
        ·rw [if_pos c15] at H
         have c15b0 : decide (x30_1 < (l0.length : Int)) = true := decide_eq_true c15
         clear c15
         replace H := Option.bind_eq_some_iff.mp H
         obtain ⟨t293, A160, H⟩ := H
         replace H : ((lex_Quote.f t293).bind fun t294 => (if t294.size + 3 ≤ 9223372036854775807 then (if x6_1.size + (t294 ++ (⟨#[32, 59, 32]⟩ : ByteArray)).size ≤ 9223372036854775807 then (if x30_1 < (l1.length : Int) then ((gongbook_Below.f (rd l1 x30_1) 5).bind fun t296 => (if 0 ≤ t296 then (if t296 < (y288.length : Int) then (if t294.size + (rdOf ByteArray.empty y288 t296).size ≤ 9223372036854775807 then (if (t294 ++ (rdOf ByteArray.empty y288 t296)).size + 1 ≤ 9223372036854775807 then (if ((t294 ++ (rdOf ByteArray.empty y288 t296)) ++ (⟨#[59]⟩ : ByteArray)).size + (rdOf ByteArray.empty y288 t296).size ≤ 9223372036854775807 then (if x7_1.size + (((t294 ++ (rdOf ByteArray.empty y288 t296)) ++ (⟨#[59]⟩ : ByteArray)) ++ (rdOf ByteArray.empty y288 t296)).size ≤ 9223372036854775807 then (gonglaw14_LexBlanks.l0 k1 l0 l1 y288 (x6_1 ++ (t294 ++ (⟨#[32, 59, 32]⟩ : ByteArray))) (x7_1 ++ (((t294 ++ (rdOf ByteArray.empty y288 t296)) ++ (⟨#[59]⟩ : ByteArray)) ++ (rdOf ByteArray.empty y288 t296))) l0 (l0.length : Int) (wrap64 (x30_1 + 1))) else (none)) else (none)) else (none)) else (none)) else (none)) else (none))) else (if 0 < (y288.length : Int) then (if t294.size + (rdOf ByteArray.empty y288 0).size ≤ 9223372036854775807 then (if (t294 ++ (rdOf ByteArray.empty y288 0)).size + 1 ≤ 9223372036854775807 then (if ((t294 ++ (rdOf ByteArray.empty y288 0)) ++ (⟨#[59]⟩ : ByteArray)).size + (rdOf ByteArray.empty y288 0).size ≤ 9223372036854775807 then (if x7_1.size + (((t294 ++ (rdOf ByteArray.empty y288 0)) ++ (⟨#[59]⟩ : ByteArray)) ++ (rdOf ByteArray.empty y288 0)).size ≤ 9223372036854775807 then (gonglaw14_LexBlanks.l0 k1 l0 l1 y288 (x6_1 ++ (t294 ++ (⟨#[32, 59, 32]⟩ : ByteArray))) (x7_1 ++ (((t294 ++ (rdOf ByteArray.empty y288 0)) ++ (⟨#[59]⟩ : ByteArray)) ++ (rdOf ByteArray.empty y288 0))) l0 (l0.length : Int) (wrap64 (x30_1 + 1))) else (none)) else (none)) else (none)) else (none)) else (none))) else (none)) else (none))) = some r := H
         have A16 := Aside0.mk A160
         clear A160
         replace H := Option.bind_eq_some_iff.mp H
         obtain ⟨t294, A170, H⟩ := H
         replace H : (if t294.size + 3 ≤ 9223372036854775807 then (if x6_1.size + (t294 ++ (⟨#[32, 59, 32]⟩ : ByteArray)).size ≤ 9223372036854775807 then (if x30_1 < (l1.length : Int) then ((gongbook_Below.f (rd l1 x30_1) 5).bind fun t296 => (if 0 ≤ t296 then (if t296 < (y288.length : Int) then (if t294.size + (rdOf ByteArray.empty y288 t296).size ≤ 9223372036854775807 then (if (t294 ++ (rdOf ByteArray.empty y288 t296)).size + 1 ≤ 9223372036854775807 then (if ((t294 ++ (rdOf ByteArray.empty y288 t296)) ++ (⟨#[59]⟩ : ByteArray)).size + (rdOf ByteArray.empty y288 t296).size ≤ 9223372036854775807 then (if x7_1.size + (((t294 ++ (rdOf ByteArray.empty y288 t296)) ++ (⟨#[59]⟩ : ByteArray)) ++ (rdOf ByteArray.empty y288 t296)).size ≤ 9223372036854775807 then (gonglaw14_LexBlanks.l0 k1 l0 l1 y288 (x6_1 ++ (t294 ++ (⟨#[32, 59, 32]⟩ : ByteArray))) (x7_1 ++ (((t294 ++ (rdOf ByteArray.empty y288 t296)) ++ (⟨#[59]⟩ : ByteArray)) ++ (rdOf ByteArray.empty y288 t296))) l0 (l0.length : Int) (wrap64 (x30_1 + 1))) else (none)) else (none)) else (none)) else (none)) else (none)) else (none))) else (if 0 < (y288.length : Int) then (if t294.size + (rdOf ByteArray.empty y288 0).size ≤ 9223372036854775807 then (if (t294 ++ (rdOf ByteArray.empty y288 0)).size + 1 ≤ 9223372036854775807 then (if ((t294 ++ (rdOf ByteArray.empty y288 0)) ++ (⟨#[59]⟩ : ByteArray)).size + (rdOf ByteArray.empty y288 0).size ≤ 9223372036854775807 then (if x7_1.size + (((t294 ++ (rdOf ByteArray.empty y288 0)) ++ (⟨#[59]⟩ : ByteArray)) ++ (rdOf ByteArray.empty y288 0)).size ≤ 9223372036854775807 then (gonglaw14_LexBlanks.l0 k1 l0 l1 y288 (x6_1 ++ (t294 ++ (⟨#[32, 59, 32]⟩ : ByteArray))) (x7_1 ++ (((t294 ++ (rdOf ByteArray.empty y288 0)) ++ (⟨#[59]⟩ : ByteArray)) ++ (rdOf ByteArray.empty y288 0))) l0 (l0.length : Int) (wrap64 (x30_1 + 1))) else (none)) else (none)) else (none)) else (none)) else (none))) else (none)) else (none)) = some r := H
         have A17 := Aside0.mk A170
         clear A170
         by_cases c18 : t294.size + 3 ≤ 9223372036854775807
         ·rw [if_pos c18] at H
          have c18b0 := eq_true c18
          have c18b1 : decide (t294.size + 3 ≤ 9223372036854775807) = true := decide_eq_true c18
          try have c18b2 : (9223372036854775807 < t294.size + 3) = False := eq_false (Nat.not_lt.2 c18)
          by_cases c19 : x6_1.size + (t294 ++ (⟨#[32, 59, 32]⟩ : ByteArray)).size ≤ 9223372036854775807
          ·rw [if_pos c19] at H
           have c19b0 := eq_true c19
           have c19b1 : decide (x6_1.size + (t294 ++ (⟨#[32, 59, 32]⟩ : ByteArray)).size ≤ 9223372036854775807) = true := decide_eq_true c19
           try have c19b2 : (9223372036854775807 < x6_1.size + (t294 ++ (⟨#[32, 59, 32]⟩ : ByteArray)).size) = False := eq_false (Nat.not_lt.2 c19)
           try have c19s2 : (9223372036854775807 < x6_1.size + ((t294).size + 3)) = False := eq_false (by have z_ := c19; simp only [ByteArray.size_append] at z_; (try have y_ : (⟨#[59]⟩ : ByteArray).size = 1 := rfl); omega)
           by_cases c20 : x30_1 < (l1.length : Int)
           ·rw [if_pos c20] at H
            have c20b0 : decide (x30_1 < (l1.length : Int)) = true := decide_eq_true c20
            clear c20
            replace H := Option.bind_eq_some_iff.mp H
            obtain ⟨t296, A210, H⟩ := H
            replace H : (if 0 ≤ t296 then (if t296 < (y288.length : Int) then (if t294.size + (rdOf ByteArray.empty y288 t296).size ≤ 9223372036854775807 then (if (t294 ++ (rdOf ByteArray.empty y288 t296)).size + 1 ≤ 9223372036854775807 then (if ((t294 ++ (rdOf ByteArray.empty y288 t296)) ++ (⟨#[59]⟩ : ByteArray)).size + (rdOf ByteArray.empty y288 t296).size ≤ 9223372036854775807 then (if x7_1.size + (((t294 ++ (rdOf ByteArray.empty y288 t296)) ++ (⟨#[59]⟩ : ByteArray)) ++ (rdOf ByteArray.empty y288 t296)).size ≤ 9223372036854775807 then (gonglaw14_LexBlanks.l0 k1 l0 l1 y288 (x6_1 ++ (t294 ++ (⟨#[32, 59, 32]⟩ : ByteArray))) (x7_1 ++ (((t294 ++ (rdOf ByteArray.empty y288 t296)) ++ (⟨#[59]⟩ : ByteArray)) ++ (rdOf ByteArray.empty y288 t296))) l0 (l0.length : Int) (wrap64 (x30_1 + 1))) else (none)) else (none)) else (none)) else (none)) else (none)) else (none)) = some r := H
            have A21 := Aside0.mk A210
            clear A210
            by_cases c22 : 0 ≤ t296
            ·rw [if_pos c22] at H
             have c22b0 : decide (0 ≤ t296) = true := decide_eq_true c22
             clear c22
             by_cases c23 : t296 < (y288.length : Int)
             ·rw [if_pos c23] at H
              have c23b0 : decide (t296 < (y288.length : Int)) = true := decide_eq_true c23
              clear c23
              by_cases c24 : t294.size + (rdOf ByteArray.empty y288 t296).size ≤ 9223372036854775807
              ·rw [if_pos c24] at H
               have c24b0 := eq_true c24
               have c24b1 : decide (t294.size + (rdOf ByteArray.empty y288 t296).size ≤ 9223372036854775807) = true := decide_eq_true c24
               try have c24b2 : (9223372036854775807 < t294.size + (rdOf ByteArray.empty y288 t296).size) = False := eq_false (Nat.not_lt.2 c24)
               by_cases c25 : (t294 ++ (rdOf ByteArray.empty y288 t296)).size + 1 ≤ 9223372036854775807
               ·rw [if_pos c25] at H
                have c25b0 := eq_true c25
                have c25b1 : decide ((t294 ++ (rdOf ByteArray.empty y288 t296)).size + 1 ≤ 9223372036854775807) = true := decide_eq_true c25
                try have c25b2 : (9223372036854775807 < (t294 ++ (rdOf ByteArray.empty y288 t296)).size + 1) = False := eq_false (Nat.not_lt.2 c25)
                try have c25s2 : (9223372036854775807 < (t294).size + (rdOf ByteArray.empty y288 t296).size + 1) = False := eq_false (by have z_ := c25; simp only [ByteArray.size_append] at z_; (try have y_ : (⟨#[59]⟩ : ByteArray).size = 1 := rfl); omega)
                by_cases c26 : ((t294 ++ (rdOf ByteArray.empty y288 t296)) ++ (⟨#[59]⟩ : ByteArray)).size + (rdOf ByteArray.empty y288 t296).size ≤ 9223372036854775807
                ·rw [if_pos c26] at H
                 have c26b0 := eq_true c26
                 have c26b1 : decide (((t294 ++ (rdOf ByteArray.empty y288 t296)) ++ (⟨#[59]⟩ : ByteArray)).size + (rdOf ByteArray.empty y288 t296).size ≤ 9223372036854775807) = true := decide_eq_true c26
                 try have c26b2 : (9223372036854775807 < ((t294 ++ (rdOf ByteArray.empty y288 t296)) ++ (⟨#[59]⟩ : ByteArray)).size + (rdOf ByteArray.empty y288 t296).size) = False := eq_false (Nat.not_lt.2 c26)
                 try have c26s2 : (9223372036854775807 < (t294).size + (rdOf ByteArray.empty y288 t296).size + 1 + (rdOf ByteArray.empty y288 t296).size) = False := eq_false (by have z_ := c26; simp only [ByteArray.size_append] at z_; (try have y_ : (⟨#[59]⟩ : ByteArray).size = 1 := rfl); omega)
                 by_cases c27 : x7_1.size + (((t294 ++ (rdOf ByteArray.empty y288 t296)) ++ (⟨#[59]⟩ : ByteArray)) ++ (rdOf ByteArray.empty y288 t296)).size ≤ 9223372036854775807
                 ·rw [if_pos c27] at H
                  have c27b0 := eq_true c27
                  have c27b1 : decide (x7_1.size + (((t294 ++ (rdOf ByteArray.empty y288 t296)) ++ (⟨#[59]⟩ : ByteArray)) ++ (rdOf ByteArray.empty y288 t296)).size ≤ 9223372036854775807) = true := decide_eq_true c27
                  try have c27b2 : (9223372036854775807 < x7_1.size + (((t294 ++ (rdOf ByteArray.empty y288 t296)) ++ (⟨#[59]⟩ : ByteArray)) ++ (rdOf ByteArray.empty y288 t296)).size) = False := eq_false (Nat.not_lt.2 c27)
                  try have c27s2 : (9223372036854775807 < x7_1.size + ((t294).size + (rdOf ByteArray.empty y288 t296).size + 1 + (rdOf ByteArray.empty y288 t296).size)) = False := eq_false (by have z_ := c27; simp only [ByteArray.size_append] at z_; (try have y_ : (⟨#[59]⟩ : ByteArray).size = 1 := rfl); omega)
                  have H' := Aside0.mk H
                  clear H
                  have p292 : 0 ≤ (x30_1 : Int) := of_decide_eq_true (by first | (with_reducible assumption) | assumption)
                  have q292 : x30_1 < (l0.length : Int) := of_decide_eq_true (by first | (with_reducible assumption) | assumption)
                  obtain ⟨ad292, e292, hx292_0⟩ := Kd.at_string HR0.out x30_1 p292 q292
                  cases e292
                  replace hx292_0 := (HB.out.cell (World.block_lt_of_cell? w _ hx292_0)).trans hx292_0
                  replace p292 := eq_true p292
                  replace q292 := eq_true q292
                  try go_wp2_with (first | ((with_reducible refine gate_callee (f := 18) rfl ?_); refine goesL_ (some 36) rfl rfl Tryd.func18 (by kernel_rfl) rfl #[.string (rdOf ByteArray.empty l0 x30_1), .int .i64 50] rfl (by (try simp only [List.map_toArray, List.map_cons, List.map_nil]); first | done | rfl | (simp only [List.length_drop, List.length_take]; rfl)) ?_; (with_reducible refine (gongbook_Cut.calls (rdOf ByteArray.empty l0 x30_1) 50 t293 _ A16.out).mono ?_); rintro e w' ⟨rfl, ⟨nd, rfl⟩⟩; refine ⟨_, rfl, ?_⟩) | ((with_reducible refine gate_callee (f := 11) rfl ?_); refine goesL_ (some 37) rfl rfl Tryd.func11 (by kernel_rfl) rfl #[.string t293] rfl (by (try simp only [List.map_toArray, List.map_cons, List.map_nil]); first | done | rfl | (simp only [List.length_drop, List.length_take]; rfl)) ?_; (with_reducible refine (lex_Quote.calls t293 t294 _ A17.out).mono ?_); rintro e w28 ⟨rfl, hb⟩; refine ⟨_, rfl, ?_⟩; have n0_ := Aside0.mk (Kd.R_below (by (with_reducible repeat (first | apply Kd.R_alloc | apply Kd.R_drewN | apply Kd.R_drew)); exact HO_5.out) hb); have n1_ := Aside0.mk (below_step (by repeat (first | (with_reducible first | exact HB.out | apply below_alloc | apply pw_below_drewN | apply below_drew1) | exact HB.out)) hb); clear HO_5; clear HB; have HO_5 := n0_; have HB := n1_; clear n0_ n1_; (try clear hb); (try clear hb2); (try clear hk); (try clear hi); have p295 : 0 ≤ (x30_1 : Int) := of_decide_eq_true (by first | (with_reducible assumption) | assumption); have q295 : x30_1 < (l1.length : Int) := of_decide_eq_true (by first | (with_reducible assumption) | assumption); obtain ⟨ad295, e295, hx295_0⟩ := Kd.at_int HR1.out x30_1 p295 q295; cases e295; replace hx295_0 := (HB.out.cell (World.block_lt_of_cell? w _ hx295_0)).trans hx295_0; replace p295 := eq_true p295; replace q295 := eq_true q295) | ((with_reducible refine gate_callee (f := 19) rfl ?_); refine goesL_ (some 50) rfl rfl Tryd.func19 (by kernel_rfl) rfl #[.int .i64 (rd l1 x30_1), .int .i64 5] rfl (by (try simp only [List.map_toArray, List.map_cons, List.map_nil]); first | done | rfl | (simp only [List.length_drop, List.length_take]; rfl)) ?_; (with_reducible refine (gongbook_Below.calls (rd l1 x30_1) 5 t296 _ A21.out).mono ?_); rintro e w' ⟨rfl, ⟨nd, rfl⟩⟩; refine ⟨_, rfl, ?_⟩))
                  (try (rw [drewN_self w28]; generalize hq_ : World.drewN w28 _ = w28; have n0_ : Aside0 (Kd.R Kd.string 9 w28 w.heap.size (fun _ => True) (.slice (some ad291) y288.length co12) y288) := ⟨by rw [← hq_]; exact (by (with_reducible repeat (first | apply Kd.R_alloc | apply Kd.R_drewN | apply Kd.R_drew)); exact HO_5.out)⟩; have n1_ : Aside0 (Below w.heap.size w w28) := ⟨by rw [← hq_]; exact (by repeat (first | (with_reducible first | exact HB.out | apply below_alloc | apply pw_below_drewN | apply below_drew1) | exact HB.out))⟩; clear HO_5 HB hq_; have HO_5 := n0_; have HB := n1_; clear n0_ n1_))
                  have n0_ := Aside0.mk (Kd.R_drew HO_5.out)
                  have n1_ := Aside0.mk (below_drew1 HB.out)
                  clear HO_5
                  clear HB
                  have HO_5 := n0_
                  have HB := n1_
                  clear n0_ n1_
                  have p297 : 0 ≤ (t296 : Int) := of_decide_eq_true (by first | (with_reducible assumption) | assumption)
                  have q297 : t296 < (y288.length : Int) := of_decide_eq_true (by first | (with_reducible assumption) | assumption)
                  obtain ⟨ad297, e297, hx297_0⟩ := Kd.at_string (Kd.R_reads' HO_5.out).2.2 t296 p297 q297
                  obtain rfl : ad291 = ad297 := (by injection e297)
                  replace p297 := eq_true p297
                  replace q297 := eq_true q297
                  have p298 : 0 ≤ (t296 : Int) := of_decide_eq_true (by first | (with_reducible assumption) | assumption)
                  have q298 : t296 < (y288.length : Int) := of_decide_eq_true (by first | (with_reducible assumption) | assumption)
                  obtain ⟨ad298, e298, hx298_0⟩ := Kd.at_string (Kd.R_reads' HO_5.out).2.2 t296 p298 q298
                  obtain rfl : ad291 = ad298 := (by injection e298)
                  replace p298 := eq_true p298
                  replace q298 := eq_true q298
                  refine start_ (n := 15) (S := fun w' => w'.cell? (ad291.add (t296).toNat) = some (.string (rdOf ByteArray.empty y288 t296)) ∧ w'.cell? (ad291.add (t296).toNat) = some (.string (rdOf ByteArray.empty y288 t296))) (ds := []) #[false, false, false, false, false, false, false, false, false, false, false, false, false, false, false] (by kernel_rfl) rfl rfl ⟨hx297_0, hx298_0⟩ (fun hHeld => ?_); refine with_tabW gonglaw14_LexBlanks.tab15 gonglaw14_LexBlanks.bits15 (fun HT_ HW_ => ?_)
                  generalize w28.drew = w29 at HO_5 HB hx297_0 hx298_0 hHeld ⊢
                  refine pure_ (i := 0) (N := some 51) (v := ?_) (a' := ?_) (bz_ 15 1) rfl rfl (any_of HT_.out (by kernel_rfl)) (fun _ _ _ h => h) (Or.inl ⟨by rfl, ?_⟩) ?_ ?_
                  rotate_left; intro w'; go_simp; with_reducible rfl; rotate_left; simp only [Act.put, s1_, s2_, s3_, i64_w, i32_w]; rfl
                  refine pure_ (i := 1) (N := some 52) (v := ?_) (a' := ?_) (bz_ 15 3) rfl rfl (any_of HT_.out (by kernel_rfl)) (fun _ _ _ h => h) (Or.inl ⟨by rfl, ?_⟩) ?_ ?_
                  rotate_left; intro w'; go_simp; with_reducible rfl; rotate_left; simp only [Act.put, s1_, s2_, s3_, i64_w, i32_w]; rfl
                  refine pure_ (i := 2) (N := some 53) (v := ?_) (a' := ?_) (bz_ 15 7) rfl rfl (any_of HT_.out (by kernel_rfl)) (fun _ _ _ h => h) (Or.inl ⟨by rfl, ?_⟩) ?_ ?_
                  rotate_left; intro w'; go_simp; with_reducible rfl; rotate_left; simp only [Act.put, s1_, s2_, s3_, i64_w, i32_w]; rfl
                  refine pure_ (i := 3) (N := some 54) (v := ?_) (a' := ?_) (bz_ 15 15) rfl rfl (any_of HT_.out (by kernel_rfl)) (fun _ _ _ h => h) (Or.inl ⟨by rfl, ?_⟩) ?_ ?_
                  rotate_left; intro w'; go_simp; with_reducible rfl; rotate_left; simp only [Act.put, s1_, s2_, s3_, i64_w, i32_w]; rfl
                  refine pure_ (i := 4) (N := some 55) (v := ?_) (a' := ?_) (bz_ 15 31) rfl rfl (any_of HT_.out (by kernel_rfl)) (fun _ _ _ h => h) (Or.inl ⟨by rfl, ?_⟩) ?_ ?_
                  rotate_left; intro w'; go_simp; with_reducible rfl; rotate_left; simp only [Act.put, s1_, s2_, s3_, i64_w, i32_w]; rfl
                  refine pure_ (i := 8) (N := some 59) (v := ?_) (a' := ?_) (bz_ 15 287) rfl rfl (any_of HT_.out (by kernel_rfl)) (fun _ _ _ h => h) (Or.inl ⟨by rfl, ?_⟩) ?_ ?_
                  rotate_left; intro w'; go_simp; with_reducible rfl; rotate_left; simp only [Act.put, s1_, s2_, s3_, i64_w, i32_w]; rfl
                  refine pure_ (i := 9) (N := some 60) (v := ?_) (a' := ?_) (bz_ 15 799) rfl rfl (any_of HT_.out (by kernel_rfl)) (fun _ _ _ h => h) (Or.inl ⟨by rfl, ?_⟩) ?_ ?_
                  rotate_left; intro w'; go_simp; with_reducible rfl; rotate_left; simp only [Act.put, s1_, s2_, s3_, i64_w, i32_w]; rfl
                  refine pure_ (i := 10) (N := some 61) (v := ?_) (a' := ?_) (bz_ 15 1823) rfl rfl (any_of HT_.out (by kernel_rfl)) (fun _ _ _ h => h) (Or.inl ⟨by rfl, ?_⟩) ?_ ?_
                  rotate_left; intro w'; go_simp; with_reducible rfl; rotate_left; simp only [Act.put, s1_, s2_, s3_, i64_w, i32_w]; rfl
                  refine take_ (i := 5) (N := some 56) (v := ?_) (a' := ?_) #[true, true, true, true, true, true, false, false, true, true, true, false, false, false, false] rfl rfl (take_ofW HT_.out HW_.out (by kernel_rfl)) (fun _ _ _ h => h) (Or.inl ⟨by rfl, ?_⟩) hHeld ?_ ?_
                  rotate_left
                  ·rintro w' ⟨s0, s1⟩
                   go_simp
                   with_reducible rfl
                  rotate_left
                  ·simp only [Act.put, s1_, s2_, s3_, i64_w, i32_w]; rfl
                  refine pure_ (i := 6) (N := some 57) (v := ?_) (a' := ?_) (bz_ 15 1919) rfl rfl (any_of HT_.out (by kernel_rfl)) (fun _ _ _ h => h) (Or.inl ⟨by rfl, ?_⟩) ?_ ?_
                  rotate_left; intro w'; go_simp; with_reducible rfl; rotate_left; simp only [Act.put, s1_, s2_, s3_, i64_w, i32_w]; rfl
                  refine pure_ (i := 7) (N := some 58) (v := ?_) (a' := ?_) (bz_ 15 2047) rfl rfl (any_of HT_.out (by kernel_rfl)) (fun _ _ _ h => h) (Or.inl ⟨by rfl, ?_⟩) ?_ ?_
                  rotate_left; intro w'; go_simp; with_reducible rfl; rotate_left; simp only [Act.put, s1_, s2_, s3_, i64_w, i32_w]; rfl
                  refine take_ (i := 11) (N := some 62) (v := ?_) (a' := ?_) #[true, true, true, true, true, true, true, true, true, true, true, true, false, false, false] rfl rfl (take_ofW HT_.out HW_.out (by kernel_rfl)) (fun _ _ _ h => h) (Or.inl ⟨by rfl, ?_⟩) hHeld ?_ ?_
                  rotate_left
                  ·rintro w' ⟨s0, s1⟩
                   go_simp
                   with_reducible rfl
                  rotate_left
                  ·simp only [Act.put, s1_, s2_, s3_, i64_w, i32_w]; rfl
                  refine pure_ (i := 12) (N := some 63) (v := ?_) (a' := ?_) (bz_ 15 8191) rfl rfl (any_of HT_.out (by kernel_rfl)) (fun _ _ _ h => h) (Or.inl ⟨by rfl, ?_⟩) ?_ ?_
                  rotate_left; intro w'; go_simp; with_reducible rfl; rotate_left; simp only [Act.put, s1_, s2_, s3_, i64_w, i32_w]; rfl
                  refine pure_ (i := 13) (N := some 64) (v := ?_) (a' := ?_) (bz_ 15 16383) rfl rfl (any_of HT_.out (by kernel_rfl)) (fun _ _ _ h => h) (Or.inl ⟨by rfl, ?_⟩) ?_ ?_
                  rotate_left; intro w'; go_simp; with_reducible rfl; rotate_left; simp only [Act.put, s1_, s2_, s3_, i64_w, i32_w]; rfl
                  refine pure_ (i := 14) (N := some 7) (v := ?_) (a' := ?_) (bz_ 15 32767) rfl rfl (any_of HT_.out (by kernel_rfl)) (fun _ _ _ h => h) (Or.inl ⟨by rfl, ?_⟩) ?_ ?_
                  rotate_left; intro w'; go_simp; with_reducible rfl; rotate_left; simp only [Act.put, s1_, s2_, s3_, i64_w, i32_w]; rfl
                  refine done_ (done_of HT_.out (by kernel_rfl)) ?_
                  try go_wp2
                  go_roundg k1
                  case measure => have := HK1.out; omega
                  case rel => exact ⟨(x6_1 ++ (t294 ++ (⟨#[32, 59, 32]⟩ : ByteArray))), (x7_1 ++ (((t294 ++ (rdOf ByteArray.empty y288 t296)) ++ (⟨#[59]⟩ : ByteArray)) ++ (rdOf ByteArray.empty y288 t296))), (wrap64 (x30_1 + 1)), (by first | rfl | (simp; done) | (simp [*]; done)), (by first | rfl | (simp; done) | (simp [*]; done)), (by first | rfl | (simp; done) | (simp [*]; done)), H', ⟨by have := HK1.out; omega⟩, ⟨by (with_reducible repeat (first | apply Kd.R_alloc | apply Kd.R_drewN | apply Kd.R_drew)); exact HO_5.out⟩, ⟨by repeat (first | (with_reducible first | exact HB.out | apply below_alloc | apply pw_below_drewN | apply below_drew1) | exact HB.out)⟩⟩
                 ·rw [if_neg c27] at H
                  exact absurd H (by simp)
                ·rw [if_neg c26] at H
                 exact absurd H (by simp)
               ·rw [if_neg c25] at H
                exact absurd H (by simp)
              ·rw [if_neg c24] at H
               exact absurd H (by simp)
             ·rw [if_neg c23] at H
              exact absurd H (by simp)
            ·rw [if_neg c22] at H
             exact absurd H (by simp)
           ·rw [if_neg c20] at H
            have c20b0 : decide (x30_1 < (l1.length : Int)) = false := decide_eq_false c20
            clear c20
            by_cases c30 : 0 < (y288.length : Int)
            ·rw [if_pos c30] at H
             have c30b0 : decide (0 < (y288.length : Int)) = true := decide_eq_true c30
             have c30b1 : decide (0 < y288.length) = true := decide_eq_true (by omega)
             clear c30
             by_cases c31 : t294.size + (rdOf ByteArray.empty y288 0).size ≤ 9223372036854775807
             ·rw [if_pos c31] at H
              have c31b0 := eq_true c31
              have c31b1 : decide (t294.size + (rdOf ByteArray.empty y288 0).size ≤ 9223372036854775807) = true := decide_eq_true c31
              try have c31b2 : (9223372036854775807 < t294.size + (rdOf ByteArray.empty y288 0).size) = False := eq_false (Nat.not_lt.2 c31)
              by_cases c32 : (t294 ++ (rdOf ByteArray.empty y288 0)).size + 1 ≤ 9223372036854775807
              ·rw [if_pos c32] at H
               have c32b0 := eq_true c32
               have c32b1 : decide ((t294 ++ (rdOf ByteArray.empty y288 0)).size + 1 ≤ 9223372036854775807) = true := decide_eq_true c32
               try have c32b2 : (9223372036854775807 < (t294 ++ (rdOf ByteArray.empty y288 0)).size + 1) = False := eq_false (Nat.not_lt.2 c32)
               try have c32s2 : (9223372036854775807 < (t294).size + (rdOf ByteArray.empty y288 0).size + 1) = False := eq_false (by have z_ := c32; simp only [ByteArray.size_append] at z_; (try have y_ : (⟨#[59]⟩ : ByteArray).size = 1 := rfl); omega)
               by_cases c33 : ((t294 ++ (rdOf ByteArray.empty y288 0)) ++ (⟨#[59]⟩ : ByteArray)).size + (rdOf ByteArray.empty y288 0).size ≤ 9223372036854775807
               ·rw [if_pos c33] at H
                have c33b0 := eq_true c33
                have c33b1 : decide (((t294 ++ (rdOf ByteArray.empty y288 0)) ++ (⟨#[59]⟩ : ByteArray)).size + (rdOf ByteArray.empty y288 0).size ≤ 9223372036854775807) = true := decide_eq_true c33
                try have c33b2 : (9223372036854775807 < ((t294 ++ (rdOf ByteArray.empty y288 0)) ++ (⟨#[59]⟩ : ByteArray)).size + (rdOf ByteArray.empty y288 0).size) = False := eq_false (Nat.not_lt.2 c33)
                try have c33s2 : (9223372036854775807 < (t294).size + (rdOf ByteArray.empty y288 0).size + 1 + (rdOf ByteArray.empty y288 0).size) = False := eq_false (by have z_ := c33; simp only [ByteArray.size_append] at z_; (try have y_ : (⟨#[59]⟩ : ByteArray).size = 1 := rfl); omega)
                by_cases c34 : x7_1.size + (((t294 ++ (rdOf ByteArray.empty y288 0)) ++ (⟨#[59]⟩ : ByteArray)) ++ (rdOf ByteArray.empty y288 0)).size ≤ 9223372036854775807
                ·rw [if_pos c34] at H
                 have c34b0 := eq_true c34
                 have c34b1 : decide (x7_1.size + (((t294 ++ (rdOf ByteArray.empty y288 0)) ++ (⟨#[59]⟩ : ByteArray)) ++ (rdOf ByteArray.empty y288 0)).size ≤ 9223372036854775807) = true := decide_eq_true c34
                 try have c34b2 : (9223372036854775807 < x7_1.size + (((t294 ++ (rdOf ByteArray.empty y288 0)) ++ (⟨#[59]⟩ : ByteArray)) ++ (rdOf ByteArray.empty y288 0)).size) = False := eq_false (Nat.not_lt.2 c34)
                 try have c34s2 : (9223372036854775807 < x7_1.size + ((t294).size + (rdOf ByteArray.empty y288 0).size + 1 + (rdOf ByteArray.empty y288 0).size)) = False := eq_false (by have z_ := c34; simp only [ByteArray.size_append] at z_; (try have y_ : (⟨#[59]⟩ : ByteArray).size = 1 := rfl); omega)
                 have H' := Aside0.mk H
                 clear H
                 have p292 : 0 ≤ (x30_1 : Int) := of_decide_eq_true (by first | (with_reducible assumption) | assumption)
                 have q292 : x30_1 < (l0.length : Int) := of_decide_eq_true (by first | (with_reducible assumption) | assumption)
                 obtain ⟨ad292, e292, hx292_0⟩ := Kd.at_string HR0.out x30_1 p292 q292
                 cases e292
                 replace hx292_0 := (HB.out.cell (World.block_lt_of_cell? w _ hx292_0)).trans hx292_0
                 replace p292 := eq_true p292
                 replace q292 := eq_true q292
                 try go_wp2_with (first | ((with_reducible refine gate_callee (f := 18) rfl ?_); refine goesL_ (some 36) rfl rfl Tryd.func18 (by kernel_rfl) rfl #[.string (rdOf ByteArray.empty l0 x30_1), .int .i64 50] rfl (by (try simp only [List.map_toArray, List.map_cons, List.map_nil]); first | done | rfl | (simp only [List.length_drop, List.length_take]; rfl)) ?_; (with_reducible refine (gongbook_Cut.calls (rdOf ByteArray.empty l0 x30_1) 50 t293 _ A16.out).mono ?_); rintro e w' ⟨rfl, ⟨nd, rfl⟩⟩; refine ⟨_, rfl, ?_⟩) | ((with_reducible refine gate_callee (f := 11) rfl ?_); refine goesL_ (some 37) rfl rfl Tryd.func11 (by kernel_rfl) rfl #[.string t293] rfl (by (try simp only [List.map_toArray, List.map_cons, List.map_nil]); first | done | rfl | (simp only [List.length_drop, List.length_take]; rfl)) ?_; (with_reducible refine (lex_Quote.calls t293 t294 _ A17.out).mono ?_); rintro e w35 ⟨rfl, hb⟩; refine ⟨_, rfl, ?_⟩; have n0_ := Aside0.mk (Kd.R_below (by (with_reducible repeat (first | apply Kd.R_alloc | apply Kd.R_drewN | apply Kd.R_drew)); exact HO_5.out) hb); have n1_ := Aside0.mk (below_step (by repeat (first | (with_reducible first | exact HB.out | apply below_alloc | apply pw_below_drewN | apply below_drew1) | exact HB.out)) hb); clear HO_5; clear HB; have HO_5 := n0_; have HB := n1_; clear n0_ n1_; (try clear hb); (try clear hb2); (try clear hk); (try clear hi)))
                 have n0_ := Aside0.mk (Kd.R_drew HO_5.out)
                 have n1_ := Aside0.mk (below_drew1 HB.out)
                 clear HO_5
                 clear HB
                 have HO_5 := n0_
                 have HB := n1_
                 clear n0_ n1_
                 have p299 : 0 ≤ (0 : Int) := (by omega)
                 have q299 : 0 < (y288.length : Int) := of_decide_eq_true (by first | (with_reducible assumption) | assumption)
                 obtain ⟨ad299, e299, hx299_0⟩ := Kd.at_string (Kd.R_reads' HO_5.out).2.2 0 p299 q299
                 obtain rfl : ad291 = ad299 := (by injection e299)
                 have qi299 : (0 < y288.length) = True := eq_true (by omega)
                 (try rw [show ((0 : Int)).toNat = 0 from rfl] at hx299_0)
                 (try rw [Addr.add_zero'] at hx299_0)
                 replace p299 := eq_true p299
                 replace q299 := eq_true q299
                 have p300 : 0 ≤ (0 : Int) := (by omega)
                 have q300 : 0 < (y288.length : Int) := of_decide_eq_true (by first | (with_reducible assumption) | assumption)
                 obtain ⟨ad300, e300, hx300_0⟩ := Kd.at_string (Kd.R_reads' HO_5.out).2.2 0 p300 q300
                 obtain rfl : ad291 = ad300 := (by injection e300)
                 have qi300 : (0 < y288.length) = True := eq_true (by omega)
                 (try rw [show ((0 : Int)).toNat = 0 from rfl] at hx300_0)
                 (try rw [Addr.add_zero'] at hx300_0)
                 replace p300 := eq_true p300
                 replace q300 := eq_true q300
                 refine start_ (n := 15) (S := fun w' => w'.cell? ad291 = some (.string (rdOf ByteArray.empty y288 0)) ∧ w'.cell? ad291 = some (.string (rdOf ByteArray.empty y288 0))) (ds := []) #[false, false, false, false, false, false, false, false, false, false, false, false, false, false, false] (by kernel_rfl) rfl rfl ⟨hx299_0, hx300_0⟩ (fun hHeld => ?_); refine with_tabW gonglaw14_LexBlanks.tab15 gonglaw14_LexBlanks.bits15 (fun HT_ HW_ => ?_)
                 generalize w35.drew = w36 at HO_5 HB hx299_0 hx300_0 hHeld ⊢
                 refine pure_ (i := 0) (N := some 51) (v := ?_) (a' := ?_) (bz_ 15 1) rfl rfl (any_of HT_.out (by kernel_rfl)) (fun _ _ _ h => h) (Or.inl ⟨by rfl, ?_⟩) ?_ ?_
                 rotate_left; intro w'; go_simp; with_reducible rfl; rotate_left; simp only [Act.put, s1_, s2_, s3_, i64_w, i32_w]; rfl
                 refine pure_ (i := 1) (N := some 52) (v := ?_) (a' := ?_) (bz_ 15 3) rfl rfl (any_of HT_.out (by kernel_rfl)) (fun _ _ _ h => h) (Or.inl ⟨by rfl, ?_⟩) ?_ ?_
                 rotate_left; intro w'; go_simp; with_reducible rfl; rotate_left; simp only [Act.put, s1_, s2_, s3_, i64_w, i32_w]; rfl
                 refine pure_ (i := 2) (N := some 53) (v := ?_) (a' := ?_) (bz_ 15 7) rfl rfl (any_of HT_.out (by kernel_rfl)) (fun _ _ _ h => h) (Or.inl ⟨by rfl, ?_⟩) ?_ ?_
                 rotate_left; intro w'; go_simp; with_reducible rfl; rotate_left; simp only [Act.put, s1_, s2_, s3_, i64_w, i32_w]; rfl
                 refine pure_ (i := 3) (N := some 54) (v := ?_) (a' := ?_) (bz_ 15 15) rfl rfl (any_of HT_.out (by kernel_rfl)) (fun _ _ _ h => h) (Or.inl ⟨by rfl, ?_⟩) ?_ ?_
                 rotate_left; intro w'; go_simp; with_reducible rfl; rotate_left; simp only [Act.put, s1_, s2_, s3_, i64_w, i32_w]; rfl
                 refine pure_ (i := 4) (N := some 55) (v := ?_) (a' := ?_) (bz_ 15 31) rfl rfl (any_of HT_.out (by kernel_rfl)) (fun _ _ _ h => h) (Or.inl ⟨by rfl, ?_⟩) ?_ ?_
                 rotate_left; intro w'; go_simp; with_reducible rfl; rotate_left; simp only [Act.put, s1_, s2_, s3_, i64_w, i32_w]; rfl
                 refine pure_ (i := 8) (N := some 59) (v := ?_) (a' := ?_) (bz_ 15 287) rfl rfl (any_of HT_.out (by kernel_rfl)) (fun _ _ _ h => h) (Or.inl ⟨by rfl, ?_⟩) ?_ ?_
                 rotate_left; intro w'; go_simp; with_reducible rfl; rotate_left; simp only [Act.put, s1_, s2_, s3_, i64_w, i32_w]; rfl
                 refine pure_ (i := 9) (N := some 60) (v := ?_) (a' := ?_) (bz_ 15 799) rfl rfl (any_of HT_.out (by kernel_rfl)) (fun _ _ _ h => h) (Or.inl ⟨by rfl, ?_⟩) ?_ ?_
                 rotate_left; intro w'; go_simp; with_reducible rfl; rotate_left; simp only [Act.put, s1_, s2_, s3_, i64_w, i32_w]; rfl
                 refine pure_ (i := 10) (N := some 61) (v := ?_) (a' := ?_) (bz_ 15 1823) rfl rfl (any_of HT_.out (by kernel_rfl)) (fun _ _ _ h => h) (Or.inl ⟨by rfl, ?_⟩) ?_ ?_
                 rotate_left; intro w'; go_simp; with_reducible rfl; rotate_left; simp only [Act.put, s1_, s2_, s3_, i64_w, i32_w]; rfl
                 refine take_ (i := 5) (N := some 56) (v := ?_) (a' := ?_) #[true, true, true, true, true, true, false, false, true, true, true, false, false, false, false] rfl rfl (take_ofW HT_.out HW_.out (by kernel_rfl)) (fun _ _ _ h => h) (Or.inl ⟨by rfl, ?_⟩) hHeld ?_ ?_
                 rotate_left
                 ·rintro w' ⟨s0, s1⟩
                  go_simp
                  with_reducible rfl
                 rotate_left
                 ·simp only [Act.put, s1_, s2_, s3_, i64_w, i32_w]; rfl
                 refine pure_ (i := 6) (N := some 57) (v := ?_) (a' := ?_) (bz_ 15 1919) rfl rfl (any_of HT_.out (by kernel_rfl)) (fun _ _ _ h => h) (Or.inl ⟨by rfl, ?_⟩) ?_ ?_
                 rotate_left; intro w'; go_simp; with_reducible rfl; rotate_left; simp only [Act.put, s1_, s2_, s3_, i64_w, i32_w]; rfl
                 refine pure_ (i := 7) (N := some 58) (v := ?_) (a' := ?_) (bz_ 15 2047) rfl rfl (any_of HT_.out (by kernel_rfl)) (fun _ _ _ h => h) (Or.inl ⟨by rfl, ?_⟩) ?_ ?_
                 rotate_left; intro w'; go_simp; with_reducible rfl; rotate_left; simp only [Act.put, s1_, s2_, s3_, i64_w, i32_w]; rfl
                 refine take_ (i := 11) (N := some 62) (v := ?_) (a' := ?_) #[true, true, true, true, true, true, true, true, true, true, true, true, false, false, false] rfl rfl (take_ofW HT_.out HW_.out (by kernel_rfl)) (fun _ _ _ h => h) (Or.inl ⟨by rfl, ?_⟩) hHeld ?_ ?_
                 rotate_left
                 ·rintro w' ⟨s0, s1⟩
                  go_simp
                  with_reducible rfl
                 rotate_left
                 ·simp only [Act.put, s1_, s2_, s3_, i64_w, i32_w]; rfl
                 refine pure_ (i := 12) (N := some 63) (v := ?_) (a' := ?_) (bz_ 15 8191) rfl rfl (any_of HT_.out (by kernel_rfl)) (fun _ _ _ h => h) (Or.inl ⟨by rfl, ?_⟩) ?_ ?_
                 rotate_left; intro w'; go_simp; with_reducible rfl; rotate_left; simp only [Act.put, s1_, s2_, s3_, i64_w, i32_w]; rfl
                 refine pure_ (i := 13) (N := some 64) (v := ?_) (a' := ?_) (bz_ 15 16383) rfl rfl (any_of HT_.out (by kernel_rfl)) (fun _ _ _ h => h) (Or.inl ⟨by rfl, ?_⟩) ?_ ?_
                 rotate_left; intro w'; go_simp; with_reducible rfl; rotate_left; simp only [Act.put, s1_, s2_, s3_, i64_w, i32_w]; rfl
                 refine pure_ (i := 14) (N := some 7) (v := ?_) (a' := ?_) (bz_ 15 32767) rfl rfl (any_of HT_.out (by kernel_rfl)) (fun _ _ _ h => h) (Or.inl ⟨by rfl, ?_⟩) ?_ ?_
                 rotate_left; intro w'; go_simp; with_reducible rfl; rotate_left; simp only [Act.put, s1_, s2_, s3_, i64_w, i32_w]; rfl
                 refine done_ (done_of HT_.out (by kernel_rfl)) ?_
                 try go_wp2
                 go_roundg k1
                 case measure => have := HK1.out; omega
                 case rel => exact ⟨(x6_1 ++ (t294 ++ (⟨#[32, 59, 32]⟩ : ByteArray))), (x7_1 ++ (((t294 ++ (rdOf ByteArray.empty y288 0)) ++ (⟨#[59]⟩ : ByteArray)) ++ (rdOf ByteArray.empty y288 0))), (wrap64 (x30_1 + 1)), (by first | rfl | (simp; done) | (simp [*]; done)), (by first | rfl | (simp; done) | (simp [*]; done)), (by first | rfl | (simp; done) | (simp [*]; done)), H', ⟨by have := HK1.out; omega⟩, ⟨by (with_reducible repeat (first | apply Kd.R_alloc | apply Kd.R_drewN | apply Kd.R_drew)); exact HO_5.out⟩, ⟨by repeat (first | (with_reducible first | exact HB.out | apply below_alloc | apply pw_below_drewN | apply below_drew1) | exact HB.out)⟩⟩
                ·rw [if_neg c34] at H
                 exact absurd H (by simp)
               ·rw [if_neg c33] at H
                exact absurd H (by simp)
              ·rw [if_neg c32] at H
               exact absurd H (by simp)
             ·rw [if_neg c31] at H
              exact absurd H (by simp)
            ·rw [if_neg c30] at H
             exact absurd H (by simp)
          ·rw [if_neg c19] at H
           exact absurd H (by simp)
         ·rw [if_neg c18] at H
          exact absurd H (by simp)
        ·rw [if_neg c15] at H
         exact absurd H (by simp)
       ·rw [if_neg c14] at H
        exact absurd H (by simp)
      ·rw [if_neg c13] at H
       have c13b0 : decide (x30_1 < (l0.length : Int)) = false := decide_eq_false c13
       clear c13
       replace H := Option.bind_eq_some_iff.mp H
       obtain ⟨⟨t301, t302, t303⟩, A370, H⟩ := H
       replace H : ((lex_Split.f x7_1).bind fun bt306 => (if t303 = 0 then (if bt306.2.2 = 0 then ((gonglaw14_alike.f k1 t301 bt306.1).bind fun t311 => (if t311 = true then (gonglaw14_LexBlanks.j1 k1 l0 x7_1 t301 bt306.1 ((t301.length : Int) != (wrap64 (2 * (l0.length : Int))))) else (gonglaw14_LexBlanks.j1 k1 l0 x7_1 t301 bt306.1 true))) else (gonglaw14_LexBlanks.j1 k1 l0 x7_1 t301 bt306.1 true)) else (gonglaw14_LexBlanks.j1 k1 l0 x7_1 t301 bt306.1 true))) = some r := H
       have A37 := Aside0.mk A370
       clear A370
       replace H := Option.bind_eq_some_iff.mp H
       obtain ⟨⟨t306, t307, t308⟩, A380, H⟩ := H
       replace H : (if t303 = 0 then (if t308 = 0 then ((gonglaw14_alike.f k1 t301 t306).bind fun t311 => (if t311 = true then (gonglaw14_LexBlanks.j1 k1 l0 x7_1 t301 t306 ((t301.length : Int) != (wrap64 (2 * (l0.length : Int))))) else (gonglaw14_LexBlanks.j1 k1 l0 x7_1 t301 t306 true))) else (gonglaw14_LexBlanks.j1 k1 l0 x7_1 t301 t306 true)) else (gonglaw14_LexBlanks.j1 k1 l0 x7_1 t301 t306 true)) = some r := H
       have A38 := Aside0.mk A380
       clear A380
       have HC39 := Aside0.mk H
       clear H
       go_upto_region 19 with (first | ((with_reducible refine gate_callee (f := 14) rfl ?_); refine goesL_ (some 68) rfl rfl Tryd.func14 (by kernel_rfl) rfl #[.string x6_1] rfl (by (try simp only [List.map_toArray, List.map_cons, List.map_nil]); first | done | rfl | (simp only [List.length_drop, List.length_take]; rfl)) ?_; (with_reducible refine (lex_Split.calls x6_1 t301 t302 t303 _ A37.out).mono ?_); rintro e w40 ⟨v304, rfl, ho0, hb⟩; refine ⟨_, rfl, ?_⟩; have n0_ := Aside0.mk (Kd.R_below (by (with_reducible repeat (first | apply Kd.R_alloc | apply Kd.R_drewN | apply Kd.R_drew)); exact HO_5.out) hb); have n1_ := Aside0.mk (Kd.R_lower ho0 (below_size (by repeat (first | (with_reducible first | exact HB.out | apply below_alloc | apply pw_below_drewN | apply below_drew1) | exact HB.out)))); have n2_ := Aside0.mk (below_step (by repeat (first | (with_reducible first | exact HB.out | apply below_alloc | apply pw_below_drewN | apply below_drew1) | exact HB.out)) hb); clear HO_5; clear HB; have HO_5 := n0_; have HO305 := n1_; have HB := n2_; clear n0_ n1_ n2_; (try clear hb); (try clear hb2); (try clear hk); (try clear hi); (try clear ho0)) | ((with_reducible refine gate_callee (f := 14) rfl ?_); refine goesL_ (some 74) rfl rfl Tryd.func14 (by kernel_rfl) rfl #[.string x7_1] rfl (by (try simp only [List.map_toArray, List.map_cons, List.map_nil]); first | done | rfl | (simp only [List.length_drop, List.length_take]; rfl)) ?_; (with_reducible refine (lex_Split.calls x7_1 t306 t307 t308 _ A38.out).mono ?_); rintro e w41 ⟨v309, rfl, ho0, hb⟩; refine ⟨_, rfl, ?_⟩; have n0_ := Aside0.mk (Kd.R_below (by (with_reducible repeat (first | apply Kd.R_alloc | apply Kd.R_drewN | apply Kd.R_drew)); exact HO_5.out) hb); have n1_ := Aside0.mk (Kd.R_elder' (by (with_reducible repeat (first | apply Kd.R_alloc | apply Kd.R_drewN | apply Kd.R_drew)); exact HO305.out) (Kd.R_base ho0) hb); have n2_ := Aside0.mk (Kd.R_lower (Kd.R_new' ho0 (Kd.R_lt (by (with_reducible repeat (first | apply Kd.R_alloc | apply Kd.R_drewN | apply Kd.R_drew)); exact HO305.out))) (below_size (by repeat (first | (with_reducible first | exact HB.out | apply below_alloc | apply pw_below_drewN | apply below_drew1) | exact HB.out)))); have n3_ := Aside0.mk (below_step (by repeat (first | (with_reducible first | exact HB.out | apply below_alloc | apply pw_below_drewN | apply below_drew1) | exact HB.out)) hb); clear HO_5; clear HO305; clear HB; have HO_5 := n0_; have HO305 := n1_; have HO310 := n2_; have HB := n3_; clear n0_ n1_ n2_ n3_; (try clear hb); (try clear hb2); (try clear hk); (try clear hi); (try clear ho0)))
       (try simp only [Act.put, List.setIfInBounds_toArray, List.set_cons_zero, List.set_cons_succ])
       go_cut [97] (fun v97 wc => ∃ (kq : Nat) (x97_38 : Bool), v97 = .bool x97_38 ∧ Aside0 (gonglaw14_LexBlanks.j1 kq l0 x7_1 t301 t306 x97_38 = some r) ∧ Aside0 (kq ≤ k1) ∧ Aside0 (Kd.R k25 25 wc w.heap.size (fun k_ => some k_ ≠ (v309 : Value).ownBlock) v304 t301) ∧ Aside0 (Kd.R k25 25 wc w.heap.size (fun k_ => some k_ ≠ (v304 : Value).ownBlock) v309 t306) ∧ Aside0 (Below w.heap.size w wc))
       case first =>
        have H := HC39.out
        clear HC39
        by_cases c42 : t303 = 0
        ·rw [if_pos c42] at H
         have c42b0 : (t303 == 0) = true := beq_iff_eq.mpr c42
         have c42b1 : (t303 != 0) = false := bne_eq_false_iff_eq.mpr c42
         clear c42
         (first | rw [c42b0] | (simp only [i64_w, i32_w]; rw [c42b0]) | skip)
         by_cases c43 : t308 = 0
         ·rw [if_pos c43] at H
          have c43b0 : (t308 == 0) = true := beq_iff_eq.mpr c43
          have c43b1 : (t308 != 0) = false := bne_eq_false_iff_eq.mpr c43
          clear c43
          replace H := Option.bind_eq_some_iff.mp H
          obtain ⟨t311, A440, H⟩ := H
          replace H : (if t311 = true then (gonglaw14_LexBlanks.j1 k1 l0 x7_1 t301 t306 ((t301.length : Int) != (wrap64 (2 * (l0.length : Int))))) else (gonglaw14_LexBlanks.j1 k1 l0 x7_1 t301 t306 true)) = some r := H
          have A44 := Aside0.mk A440
          clear A440
          by_cases c45 : t311 = true
          ·subst c45
           have H1 : (gonglaw14_LexBlanks.j1 k1 l0 x7_1 t301 t306 ((t301.length : Int) != (wrap64 (2 * (l0.length : Int))))) = some r := by rw [if_pos rfl] at H; exact H
           clear H
           have H := H1
           clear H1
           have H' := Aside0.mk H
           clear H
           obtain ⟨Ao46, co46, eo46⟩ := Kd.R_slice HO305.out
           subst eo46
           obtain ⟨Ao47, co47, eo47⟩ := Kd.R_slice HO310.out
           subst eo47
           go_wp2_with (first | (go_at_call 15; (with_reducible refine (gonglaw14_alike.calls k1 _ _ t301 _ _ t306 true _ ?side1 ?side2 ?side3 ?side4 A44.out).mono ?_); (case side1 => repeat (first | exact (Kd.R_reads' HO305.out).2.2 | (with_reducible refine Kd.C_alloc ?_ _) | (with_reducible refine Kd.C_drewN ?_ _) | (with_reducible refine Kd.C_drew ?_))); (case side2 => exact (Kd.R_reads' HO305.out).2.1); (case side3 => repeat (first | exact (Kd.R_reads' HO310.out).2.2 | (with_reducible refine Kd.C_alloc ?_ _) | (with_reducible refine Kd.C_drewN ?_ _) | (with_reducible refine Kd.C_drew ?_))); (case side4 => exact (Kd.R_reads' HO310.out).2.1); rintro e w' ⟨rfl, ⟨nd, rfl⟩⟩))
           go_meet
           case rel => exact ⟨_, (((t301.length : Int) != (wrap64 (2 * (l0.length : Int))))), (by first | rfl | (simp; done) | (simp [*]; done)), H', ⟨by have := HK1.out; first | omega | exact Nat.le_refl _⟩, ⟨by (with_reducible repeat (first | apply Kd.R_alloc | apply Kd.R_drewN | apply Kd.R_drew)); exact Kd.R_mono HO305.out (fun _ hk => hk.2)⟩, ⟨by (with_reducible repeat (first | apply Kd.R_alloc | apply Kd.R_drewN | apply Kd.R_drew)); exact Kd.R_mono HO310.out (fun _ hk => hk.2)⟩, ⟨by repeat (first | (with_reducible first | exact HB.out | apply below_alloc | apply pw_below_drewN | apply below_drew1) | exact HB.out)⟩⟩
          ·replace c45 := Bool.eq_false_iff.mpr c45
           subst c45
           have H1 : (gonglaw14_LexBlanks.j1 k1 l0 x7_1 t301 t306 true) = some r := by rw [if_neg (show ¬ (false = true) by decide)] at H; exact H
           clear H
           have H := H1
           clear H1
           have H' := Aside0.mk H
           clear H
           obtain ⟨Ao48, co48, eo48⟩ := Kd.R_slice HO305.out
           subst eo48
           obtain ⟨Ao49, co49, eo49⟩ := Kd.R_slice HO310.out
           subst eo49
           go_wp2_with (first | (go_at_call 15; (with_reducible refine (gonglaw14_alike.calls k1 _ _ t301 _ _ t306 false _ ?side1 ?side2 ?side3 ?side4 A44.out).mono ?_); (case side1 => repeat (first | exact (Kd.R_reads' HO305.out).2.2 | (with_reducible refine Kd.C_alloc ?_ _) | (with_reducible refine Kd.C_drewN ?_ _) | (with_reducible refine Kd.C_drew ?_))); (case side2 => exact (Kd.R_reads' HO305.out).2.1); (case side3 => repeat (first | exact (Kd.R_reads' HO310.out).2.2 | (with_reducible refine Kd.C_alloc ?_ _) | (with_reducible refine Kd.C_drewN ?_ _) | (with_reducible refine Kd.C_drew ?_))); (case side4 => exact (Kd.R_reads' HO310.out).2.1); rintro e w' ⟨rfl, ⟨nd, rfl⟩⟩))
           go_meet
           case rel => exact ⟨_, (true), (by first | rfl | (simp; done) | (simp [*]; done)), H', ⟨by have := HK1.out; first | omega | exact Nat.le_refl _⟩, ⟨by (with_reducible repeat (first | apply Kd.R_alloc | apply Kd.R_drewN | apply Kd.R_drew)); exact Kd.R_mono HO305.out (fun _ hk => hk.2)⟩, ⟨by (with_reducible repeat (first | apply Kd.R_alloc | apply Kd.R_drewN | apply Kd.R_drew)); exact Kd.R_mono HO310.out (fun _ hk => hk.2)⟩, ⟨by repeat (first | (with_reducible first | exact HB.out | apply below_alloc | apply pw_below_drewN | apply below_drew1) | exact HB.out)⟩⟩
         ·rw [if_neg c43] at H
          have c43b0 : (t308 == 0) = false := beq_eq_false_iff_ne.mpr c43
          have c43b1 : (t308 != 0) = true := bne_iff_ne.mpr c43
          have H' := Aside0.mk H
          clear H
          go_wp2
          go_meet
          case rel => exact ⟨_, (true), (by first | rfl | (simp; done) | (simp [*]; done)), H', ⟨by have := HK1.out; first | omega | exact Nat.le_refl _⟩, ⟨by (with_reducible repeat (first | apply Kd.R_alloc | apply Kd.R_drewN | apply Kd.R_drew)); exact Kd.R_mono HO305.out (fun _ hk => hk.2)⟩, ⟨by (with_reducible repeat (first | apply Kd.R_alloc | apply Kd.R_drewN | apply Kd.R_drew)); exact Kd.R_mono HO310.out (fun _ hk => hk.2)⟩, ⟨by repeat (first | (with_reducible first | exact HB.out | apply below_alloc | apply pw_below_drewN | apply below_drew1) | exact HB.out)⟩⟩
        ·rw [if_neg c42] at H
         have c42b0 : (t303 == 0) = false := beq_eq_false_iff_ne.mpr c42
         have c42b1 : (t303 != 0) = true := bne_iff_ne.mpr c42
         (first | rw [c42b0] | (simp only [i64_w, i32_w]; rw [c42b0]) | skip)
         have H' := Aside0.mk H
         clear H
         go_wp2
         go_meet
         case rel => exact ⟨_, (true), (by first | rfl | (simp; done) | (simp [*]; done)), H', ⟨by have := HK1.out; first | omega | exact Nat.le_refl _⟩, ⟨by (with_reducible repeat (first | apply Kd.R_alloc | apply Kd.R_drewN | apply Kd.R_drew)); exact Kd.R_mono HO305.out (fun _ hk => hk.2)⟩, ⟨by (with_reducible repeat (first | apply Kd.R_alloc | apply Kd.R_drewN | apply Kd.R_drew)); exact Kd.R_mono HO310.out (fun _ hk => hk.2)⟩, ⟨by repeat (first | (with_reducible first | exact HB.out | apply below_alloc | apply pw_below_drewN | apply below_drew1) | exact HB.out)⟩⟩
       case rest =>
        clear HC39
        try clear c1
        try clear c2
        try clear p2
        try clear q2
        try clear hx2
        try clear qi2
        try clear c3
        try clear p3
        try clear q3
        try clear hx3
        try clear qi3
        try clear c4
        try clear c5
        try clear c5b0
        try clear c5b1
        try clear c6
        try clear p6
        try clear c7
        try clear c7b0
        try clear c7b1
        try clear c11
        try clear c13
        try clear c13b0
        try clear c14
        try clear c14b0
        try clear c15
        try clear c15b0
        try clear c18
        try clear c18b0
        try clear c18b1
        try clear c18b2
        try clear c19
        try clear c19b0
        try clear c19b1
        try clear c19b2
        try clear c20
        try clear c20b0
        try clear c22
        try clear c22b0
        try clear c23
        try clear c23b0
        try clear c24
        try clear c24b0
        try clear c24b1
        try clear c24b2
        try clear c25
        try clear c25b0
        try clear c25b1
        try clear c25b2
        try clear c26
        try clear c26b0
        try clear c26b1
        try clear c26b2
        try clear c27
        try clear c27b0
        try clear c27b1
        try clear c27b2
        try clear p29
        try clear q29
        try clear hx29
        try clear qi29
        try clear c30
        try clear c30b0
        try clear c30b1
        try clear p30
        try clear q30
        try clear hx30
        try clear qi30
        try clear c31
        try clear c31b0
        try clear c31b1
        try clear c31b2
        try clear c32
        try clear c32b0
        try clear c32b1
        try clear c32b2
        try clear c33
        try clear c33b0
        try clear c33b1
        try clear c33b2
        try clear c34
        try clear c34b0
        try clear c34b1
        try clear c34b2
        try clear c42
        try clear c42b0
        try clear c42b1
        try clear c43
        try clear c43b0
        try clear c43b1
        try clear c45
        try clear hx291_0
        try clear hx292_0
        try clear hx295_0
        try clear hx297_0
        try clear hx298_0
        try clear hx299_0
        try clear hx300_0
        try clear p2
        try clear p291
        try clear p292
        try clear p295
        try clear p297
        try clear p298
        try clear p299
        try clear p300
        try clear q2
        try clear q291
        try clear q292
        try clear q295
        try clear q297
        try clear q298
        try clear q299
        try clear q300
        obtain ⟨kq, x97_38, rfl, HA, HJ38, HO_12, HO_15, HB⟩ := hcut
        cases kq with
        | zero => exact absurd HA.out (by simp [gonglaw14_LexBlanks.j1])
        | succ kj38 =>
         have H := HA.out
         clear HA
         simp only [gonglaw14_LexBlanks.j1] at H
         by_cases c50 : x97_38 = true
         ·subst c50
          have H1 : (some false) = some r := by rw [if_pos rfl] at H; exact H
          clear H
          have H := H1
          clear H1
          obtain rfl := Option.some.inj H
          go_wp2
          go_ret
          exact ⟨by first | rfl | (simp [errW_none, errW_some] <;> rfl) | (simp [*, errW_none, errW_some] <;> rfl), by repeat (first | (with_reducible first | exact HB.out | apply below_alloc | apply pw_below_drewN | apply below_drew1) | exact HB.out)⟩
         ·replace c50 := Bool.eq_false_iff.mpr c50
          subst c50
          have H1 : (gonglaw14_LexBlanks.l1 kj38 l0 x7_1 t301 t306 (t306.length : Int) 0) = some r := by rw [if_neg (show ¬ (false = true) by decide)] at H; exact H
          clear H
          have H := H1
          clear H1
          have H' := Aside0.mk H
          clear H
          obtain ⟨Ao51, co51, eo51⟩ := Kd.R_slice HO_15.out
          subst eo51
          go_wp2
          go_loopg [100] kj38 (fun kq v100 w' => ∃ (x100_3 : Int), v100 = .int .i64 x100_3 ∧ Aside0 (gonglaw14_LexBlanks.l1 kq l0 x7_1 t301 t306 (t306.length : Int) x100_3 = some r) ∧ Aside0 (kq ≤ kj38) ∧ Aside0 (Kd.R k25 25 w' w.heap.size (fun k_ => some k_ ≠ ((.slice Ao51 t306.length co51) : Value).ownBlock) v304 t301) ∧ Aside0 (Kd.R k25 25 w' w.heap.size (fun k_ => some k_ ≠ (v304 : Value).ownBlock) (.slice Ao51 t306.length co51) t306) ∧ Aside0 (Below w.heap.size w w'))
          case atStart => exact ⟨(0), (by first | rfl | (simp; done) | (simp [*]; done)), H', ⟨Nat.le_refl _⟩, ⟨by (with_reducible repeat (first | apply Kd.R_alloc | apply Kd.R_drewN | apply Kd.R_drew)); exact HO_12.out⟩, ⟨by (with_reducible repeat (first | apply Kd.R_alloc | apply Kd.R_drewN | apply Kd.R_drew)); exact HO_15.out⟩, ⟨by repeat (first | (with_reducible first | exact HB.out | apply below_alloc | apply pw_below_drewN | apply below_drew1) | exact HB.out)⟩⟩
          case round =>
           clear H'
           try clear c1
           try clear c2
           try clear p2
           try clear q2
           try clear hx2
           try clear qi2
           try clear c3
           try clear p3
           try clear q3
           try clear hx3
           try clear qi3
           try clear c4
           try clear c5
           try clear c5b0
           try clear c5b1
           try clear c6
           try clear p6
           try clear c7
           try clear c7b0
           try clear c7b1
           try clear c11
           try clear c13
           try clear c13b0
           try clear c14
           try clear c14b0
           try clear c15
           try clear c15b0
           try clear c18
           try clear c18b0
           try clear c18b1
           try clear c18b2
           try clear c19
           try clear c19b0
           try clear c19b1
           try clear c19b2
           try clear c20
           try clear c20b0
           try clear c22
           try clear c22b0
           try clear c23
           try clear c23b0
           try clear c24
           try clear c24b0
           try clear c24b1
           try clear c24b2
           try clear c25
           try clear c25b0
           try clear c25b1
           try clear c25b2
           try clear c26
           try clear c26b0
           try clear c26b1
           try clear c26b2
           try clear c27
           try clear c27b0
           try clear c27b1
           try clear c27b2
           try clear p29
           try clear q29
           try clear hx29
           try clear qi29
           try clear c30
           try clear c30b0
           try clear c30b1
           try clear p30
           try clear q30
           try clear hx30
           try clear qi30
           try clear c31
           try clear c31b0
           try clear c31b1
           try clear c31b2
           try clear c32
           try clear c32b0
           try clear c32b1
           try clear c32b2
           try clear c33
           try clear c33b0
           try clear c33b1
           try clear c33b2
           try clear c34
           try clear c34b0
           try clear c34b1
           try clear c34b2
           try clear c42
           try clear c42b0
           try clear c42b1
           try clear c43
           try clear c43b0
           try clear c43b1
           try clear c45
           try clear c50
           try clear hx291_0
           try clear hx292_0
           try clear hx295_0
           try clear hx297_0
           try clear hx298_0
           try clear hx299_0
           try clear hx300_0
           try clear p2
           try clear p29
           try clear p291
           try clear p292
           try clear p295
           try clear p297
           try clear p298
           try clear p299
           try clear p3
           try clear p30
           try clear p300
           try clear p6
           try clear q2
           try clear q29
           try clear q291
           try clear q292
           try clear q295
           try clear q297
           try clear q298
           try clear q299
           try clear q3
           try clear q30
           try clear q300
           obtain ⟨x100_3, rfl, HA, HK3, HO_12, HO_15, HB⟩ := hrel
           cases gk with
           | zero => exact absurd HA.out (by simp [gonglaw14_LexBlanks.l1])
           | succ k3 =>
            have H := HA.out
            clear HA
            simp only [gonglaw14_LexBlanks.l1] at H
            by_cases c52 : x100_3 < (t306.length : Int)
            ·rw [if_pos c52] at H
             have c52b0 : decide (x100_3 < (t306.length : Int)) = true := decide_eq_true c52
             clear c52
             have HC53 := Aside0.mk H
             clear H
             go_upto_region 24 with (fail)
             go_cut [145] (fun v145 wc => ∃ (kq : Nat) (x145_52 : Bool), v145 = .bool x145_52 ∧ Aside0 (gonglaw14_LexBlanks.j3 kq l0 x7_1 t301 t306 x100_3 (t306.length : Int) x100_3 x145_52 = some r) ∧ Aside0 (kq ≤ k3) ∧ Aside0 (Kd.R k25 25 wc w.heap.size (fun k_ => some k_ ≠ ((.slice Ao51 t306.length co51) : Value).ownBlock) v304 t301) ∧ Aside0 (Kd.R k25 25 wc w.heap.size (fun k_ => some k_ ≠ (v304 : Value).ownBlock) (.slice Ao51 t306.length co51) t306) ∧ Aside0 (Below w.heap.size w wc))
             case first =>
              have H := HC53.out
              clear HC53
              by_cases c54 : 0 ≤ x100_3
              ·rw [if_pos c54] at H
               have c54b0 : decide (0 ≤ x100_3) = true := decide_eq_true c54
               clear c54
               (first | rw [c54b0] | (simp only [i64_w, i32_w]; rw [c54b0]) | skip)
               by_cases c55 : x100_3 < (t301.length : Int)
               ·rw [if_pos c55] at H
                have c55b0 : decide (x100_3 < (t301.length : Int)) = true := decide_eq_true c55
                clear c55
                by_cases c56 : ((rd_T25 t301 x100_3).f2) = 1
                ·rw [if_pos c56] at H
                 have c56b0 : (((rd_T25 t301 x100_3).f2) == 1) = true := beq_iff_eq.mpr c56
                 have c56b1 : (((rd_T25 t301 x100_3).f2) != 1) = false := bne_eq_false_iff_eq.mpr c56
                 clear c56
                 by_cases c57 : x100_3 > 0
                 ·rw [if_pos c57] at H
                  have c57b0 : decide (0 < x100_3) = true := decide_eq_true c57
                  clear c57
                  by_cases c58 : x100_3 < (t306.length : Int)
                  ·rw [if_pos c58] at H
                   have c58b0 : decide (x100_3 < (t306.length : Int)) = true := decide_eq_true c58
                   clear c58
                   obtain ⟨ji59, hji59⟩ : ∃ j_ : Int, (wrap64 (x100_3 - 1)) = j_ := ⟨_, rfl⟩
                   replace H : (if 0 ≤ (ji59) then (if (ji59) < (t306.length : Int) then (if ((rd_T25 t306 x100_3).f2) < ((rd_T25 t306 (ji59)).f2) then (gonglaw14_LexBlanks.j3 k3 l0 x7_1 t301 t306 x100_3 (t306.length : Int) x100_3 true) else (if ((rd_T25 t306 x100_3).f2) < 3 then (gonglaw14_LexBlanks.j3 k3 l0 x7_1 t301 t306 x100_3 (t306.length : Int) x100_3 true) else ((strings_Count.f x7_1 (⟨#[10]⟩ : ByteArray)).bind fun t317 => (gonglaw14_LexBlanks.j3 k3 l0 x7_1 t301 t306 x100_3 (t306.length : Int) x100_3 (decide (((rd_T25 t306 x100_3).f2) > (wrap64 (1 + t317)))))))) else (none)) else (none)) = some r := by first | (rw [hji59] at H; exact H) | (simp only [hji59] at H ⊢; exact H)
                   have hji59w : (IntKind.i64.wrap (x100_3 - 1)) = ji59 := (i64_w _).trans hji59
                   by_cases c60 : 0 ≤ (ji59)
                   ·rw [if_pos c60] at H
                    have c60b0 : decide (0 ≤ (ji59)) = true := decide_eq_true c60
                    clear c60
                    by_cases c61 : (ji59) < (t306.length : Int)
                    ·rw [if_pos c61] at H
                     have c61b0 : decide ((ji59) < (t306.length : Int)) = true := decide_eq_true c61
                     clear c61
                     by_cases c62 : ((rd_T25 t306 x100_3).f2) < ((rd_T25 t306 (ji59)).f2)
                     ·rw [if_pos c62] at H
                      have c62b0 : decide (((rd_T25 t306 x100_3).f2) < ((rd_T25 t306 (ji59)).f2)) = true := decide_eq_true c62
                      clear c62
                      have H' := Aside0.mk H
                      clear H
                      try go_wp2
                      have n0_ := Aside0.mk (Kd.R_drew HO_12.out)
                      have n1_ := Aside0.mk (Kd.R_drew HO_15.out)
                      have n2_ := Aside0.mk (below_drew1 HB.out)
                      clear HO_12
                      clear HO_15
                      clear HB
                      have HO_12 := n0_
                      have HO_15 := n1_
                      have HB := n2_
                      clear n0_ n1_ n2_
                      obtain ⟨Ao64, co64, eo64⟩ := Kd.R_slice HO_12.out
                      (first | subst eo64 | (injection eo64 with f1_ f2_ f3_; have f4_ := f1_.symm; have f5_ := f3_.symm; clear f1_ f2_ f3_; subst f4_; subst f5_))
                      have p312 : 0 ≤ (x100_3 : Int) := of_decide_eq_true (by first | (with_reducible assumption) | assumption)
                      have q312 : x100_3 < (t301.length : Int) := of_decide_eq_true (by first | (with_reducible assumption) | assumption)
                      obtain ⟨ad312, e312, hx312_0, hx312_1, hx312_2⟩ := at_T25 (Kd.R_reads' HO_12.out).2.2 x100_3 p312 q312
                      cases e312
                      replace p312 := eq_true p312
                      replace q312 := eq_true q312
                      have p313 : 0 ≤ (x100_3 : Int) := of_decide_eq_true (by first | (with_reducible assumption) | assumption)
                      have q313 : x100_3 < (t306.length : Int) := of_decide_eq_true (by first | (with_reducible assumption) | assumption)
                      obtain ⟨ad313, e313, hx313_0, hx313_1, hx313_2⟩ := at_T25 (Kd.R_reads' HO_15.out).2.2 x100_3 p313 q313
                      cases e313
                      replace p313 := eq_true p313
                      replace q313 := eq_true q313
                      have p314 : 0 ≤ ((ji59) : Int) := of_decide_eq_true (by first | (with_reducible assumption) | assumption)
                      have q314 : (ji59) < (t306.length : Int) := of_decide_eq_true (by first | (with_reducible assumption) | assumption)
                      obtain ⟨ad314, e314, hx314_0, hx314_1, hx314_2⟩ := at_T25 (Kd.R_reads' HO_15.out).2.2 (ji59) p314 q314
                      obtain rfl : ad313 = ad314 := (by injection e314)
                      replace p314 := eq_true p314
                      replace q314 := eq_true q314
                      refine start_ (n := 43) (S := fun w' => w'.cell? (ad312.add ((x100_3).toNat * 3)) = some (.int .i64 ((rd_T25 t301 x100_3).f0)) ∧ w'.cell? ⟨(ad312.add ((x100_3).toNat * 3)).block, (ad312.add ((x100_3).toNat * 3)).off + 1, none⟩ = some (.string ((rd_T25 t301 x100_3).f1)) ∧ w'.cell? ⟨(ad312.add ((x100_3).toNat * 3)).block, (ad312.add ((x100_3).toNat * 3)).off + 2, none⟩ = some (.int .i64 ((rd_T25 t301 x100_3).f2)) ∧ w'.cell? (ad313.add ((x100_3).toNat * 3)) = some (.int .i64 ((rd_T25 t306 x100_3).f0)) ∧ w'.cell? ⟨(ad313.add ((x100_3).toNat * 3)).block, (ad313.add ((x100_3).toNat * 3)).off + 1, none⟩ = some (.string ((rd_T25 t306 x100_3).f1)) ∧ w'.cell? ⟨(ad313.add ((x100_3).toNat * 3)).block, (ad313.add ((x100_3).toNat * 3)).off + 2, none⟩ = some (.int .i64 ((rd_T25 t306 x100_3).f2)) ∧ w'.cell? (ad313.add (((ji59)).toNat * 3)) = some (.int .i64 ((rd_T25 t306 (ji59)).f0)) ∧ w'.cell? ⟨(ad313.add (((ji59)).toNat * 3)).block, (ad313.add (((ji59)).toNat * 3)).off + 1, none⟩ = some (.string ((rd_T25 t306 (ji59)).f1)) ∧ w'.cell? ⟨(ad313.add (((ji59)).toNat * 3)).block, (ad313.add (((ji59)).toNat * 3)).off + 2, none⟩ = some (.int .i64 ((rd_T25 t306 (ji59)).f2))) (ds := []) #[false, false, false, false, false, false, false, false, false, false, false, false, false, false, false, false, false, false, false, false, false, false, false, false, false, false, false, false, false, false, false, false, false, false, false, false, false, false, false, false, false, false, false] (by kernel_rfl) rfl rfl ⟨hx312_0, hx312_1, hx312_2, hx313_0, hx313_1, hx313_2, hx314_0, hx314_1, hx314_2⟩ (fun hHeld => ?_); refine with_tabW gonglaw14_LexBlanks.tab24 gonglaw14_LexBlanks.bits24 (fun HT_ HW_ => ?_)
                      generalize wr.drew = w63 at HO_12 HO_15 HB hx312_0 hx312_1 hx312_2 hx313_0 hx313_1 hx313_2 hx314_0 hx314_1 hx314_2 hHeld ⊢
                      refine pure_ (i := 0) (N := some 103) (v := ?_) (a' := ?_) (bz_ 43 1) rfl rfl (any_of HT_.out (by kernel_rfl)) (fun _ _ _ h => h) (Or.inl ⟨by rfl, ?_⟩) ?_ ?_
                      rotate_left; intro w'; go_simp; with_reducible rfl; rotate_left; simp only [Act.put, s1_, s2_, s3_, i64_w, i32_w]; rfl
                      refine pure_ (i := 1) (N := some 104) (v := ?_) (a' := ?_) (bz_ 43 3) rfl rfl (any_of HT_.out (by kernel_rfl)) (fun _ _ _ h => h) (Or.inl ⟨by rfl, ?_⟩) ?_ ?_
                      rotate_left; intro w'; go_simp; with_reducible rfl; rotate_left; simp only [Act.put, s1_, s2_, s3_, i64_w, i32_w]; rfl
                      refine pure_ (i := 2) (N := some 105) (v := ?_) (a' := ?_) (bz_ 43 7) rfl rfl (any_of HT_.out (by kernel_rfl)) (fun _ _ _ h => h) (Or.inl ⟨by rfl, ?_⟩) ?_ ?_
                      rotate_left; intro w'; go_simp; with_reducible rfl; rotate_left; simp only [Act.put, s1_, s2_, s3_, i64_w, i32_w]; rfl
                      refine pure_ (i := 3) (N := some 106) (v := ?_) (a' := ?_) (bz_ 43 15) rfl rfl (any_of HT_.out (by kernel_rfl)) (fun _ _ _ h => h) (Or.inl ⟨by rfl, ?_⟩) ?_ ?_
                      rotate_left; intro w'; go_simp; with_reducible rfl; rotate_left; simp only [Act.put, s1_, s2_, s3_, i64_w, i32_w]; rfl
                      refine take_ (i := 4) (N := some 107) (v := ?_) (a' := ?_) #[true, true, true, true, true, false, false, false, false, false, false, false, false, false, false, false, false, false, false, false, false, false, false, false, false, false, false, false, false, false, false, false, false, false, false, false, false, false, false, false, false, false, false] rfl rfl (take_ofW HT_.out HW_.out (by kernel_rfl)) (fun _ _ _ h => h) (Or.inl ⟨by rfl, ?_⟩) hHeld ?_ ?_
                      rotate_left
                      ·rintro w' ⟨s0, s1, s2, s3, s4, s5, s6, s7, s8⟩
                       go_simp
                       with_reducible rfl
                      rotate_left
                      ·simp only [Act.put, s1_, s2_, s3_, i64_w, i32_w]; rfl
                      refine pure_ (i := 5) (N := some 108) (v := ?_) (a' := ?_) (bz_ 43 63) rfl rfl (any_of HT_.out (by kernel_rfl)) (fun _ _ _ h => h) (Or.inl ⟨by rfl, ?_⟩) ?_ ?_
                      rotate_left; intro w'; go_simp; with_reducible rfl; rotate_left; simp only [Act.put, s1_, s2_, s3_, i64_w, i32_w]; rfl
                      refine pure_ (i := 6) (N := some 109) (v := ?_) (a' := ?_) (bz_ 43 127) rfl rfl (any_of HT_.out (by kernel_rfl)) (fun _ _ _ h => h) (Or.inl ⟨by rfl, ?_⟩) ?_ ?_
                      rotate_left; intro w'; go_simp; with_reducible rfl; rotate_left; simp only [Act.put, s1_, s2_, s3_, i64_w, i32_w]; rfl
                      refine pure_ (i := 7) (N := some 110) (v := ?_) (a' := ?_) (bz_ 43 255) rfl rfl (any_of HT_.out (by kernel_rfl)) (fun _ _ _ h => h) (Or.inl ⟨by rfl, ?_⟩) ?_ ?_
                      rotate_left; intro w'; go_simp; with_reducible rfl; rotate_left; simp only [Act.put, s1_, s2_, s3_, i64_w, i32_w]; rfl
                      refine pure_ (i := 8) (N := some 111) (v := ?_) (a' := ?_) (bz_ 43 511) rfl rfl (any_of HT_.out (by kernel_rfl)) (fun _ _ _ h => h) (Or.inl ⟨by rfl, ?_⟩) ?_ ?_
                      rotate_left; intro w'; go_simp; with_reducible rfl; rotate_left; simp only [Act.put, s1_, s2_, s3_, i64_w, i32_w]; rfl
                      refine pure_ (i := 9) (N := some 112) (v := ?_) (a' := ?_) (bz_ 43 1023) rfl rfl (any_of HT_.out (by kernel_rfl)) (fun _ _ _ h => h) (Or.inl ⟨by rfl, ?_⟩) ?_ ?_
                      rotate_left; intro w'; go_simp; with_reducible rfl; rotate_left; simp only [Act.put, s1_, s2_, s3_, i64_w, i32_w]; rfl
                      refine pure_ (i := 10) (N := some 113) (v := ?_) (a' := ?_) (bz_ 43 2047) rfl rfl (any_of HT_.out (by kernel_rfl)) (fun _ _ _ h => h) (Or.inl ⟨by rfl, ?_⟩) ?_ ?_
                      rotate_left; intro w'; go_simp; with_reducible rfl; rotate_left; simp only [Act.put, s1_, s2_, s3_, i64_w, i32_w]; rfl
                      refine pure_ (i := 11) (N := some 114) (v := ?_) (a' := ?_) (bz_ 43 4095) rfl rfl (any_of HT_.out (by kernel_rfl)) (fun _ _ _ h => h) (Or.inl ⟨by rfl, ?_⟩) ?_ ?_
                      rotate_left; intro w'; go_simp; with_reducible rfl; rotate_left; simp only [Act.put, s1_, s2_, s3_, i64_w, i32_w]; rfl
                      refine pure_ (i := 12) (N := some 115) (v := ?_) (a' := ?_) (bz_ 43 8191) rfl rfl (any_of HT_.out (by kernel_rfl)) (fun _ _ _ h => h) (Or.inl ⟨by rfl, ?_⟩) ?_ ?_
                      rotate_left; intro w'; go_simp; with_reducible rfl; rotate_left; simp only [Act.put, s1_, s2_, s3_, i64_w, i32_w]; rfl
                      refine pure_ (i := 13) (N := some 116) (v := ?_) (a' := ?_) (bz_ 43 16383) rfl rfl (any_of HT_.out (by kernel_rfl)) (fun _ _ _ h => h) (Or.inl ⟨by rfl, ?_⟩) ?_ ?_
                      rotate_left; intro w'; go_simp; with_reducible rfl; rotate_left; simp only [Act.put, s1_, s2_, s3_, i64_w, i32_w]; rfl
                      refine pure_ (i := 15) (N := some 118) (v := ?_) (a' := ?_) (bz_ 43 49151) rfl rfl (any_of HT_.out (by kernel_rfl)) (fun _ _ _ h => h) (Or.inl ⟨by rfl, ?_⟩) ?_ ?_
                      rotate_left; intro w'; go_simp; with_reducible rfl; rotate_left; simp only [Act.put, s1_, s2_, s3_, i64_w, i32_w]; rfl
                      refine pure_ (i := 16) (N := some 119) (v := ?_) (a' := ?_) (bz_ 43 114687) rfl rfl (any_of HT_.out (by kernel_rfl)) (fun _ _ _ h => h) (Or.inl ⟨by rfl, ?_⟩) ?_ ?_
                      rotate_left; intro w'; go_simp; with_reducible rfl; rotate_left; simp only [Act.put, s1_, s2_, s3_, i64_w, i32_w]; rfl
                      refine pure_ (i := 17) (N := some 120) (v := ?_) (a' := ?_) (bz_ 43 245759) rfl rfl (any_of HT_.out (by kernel_rfl)) (fun _ _ _ h => h) (Or.inl ⟨by rfl, ?_⟩) ?_ ?_
                      rotate_left; intro w'; go_simp; with_reducible rfl; rotate_left; simp only [Act.put, s1_, s2_, s3_, i64_w, i32_w]; rfl
                      refine pure_ (i := 18) (N := some 121) (v := ?_) (a' := ?_) (bz_ 43 507903) rfl rfl (any_of HT_.out (by kernel_rfl)) (fun _ _ _ h => h) (Or.inl ⟨by rfl, ?_⟩) ?_ ?_
                      rotate_left; intro w'; go_simp; with_reducible rfl; rotate_left; simp only [Act.put, s1_, s2_, s3_, i64_w, i32_w]; rfl
                      refine pure_ (i := 19) (N := some 122) (v := ?_) (a' := ?_) (bz_ 43 1032191) rfl rfl (any_of HT_.out (by kernel_rfl)) (fun _ _ _ h => h) (Or.inl ⟨by rfl, ?_⟩) ?_ ?_
                      rotate_left; intro w'; go_simp; with_reducible rfl; rotate_left; simp only [Act.put, s1_, s2_, s3_, i64_w, i32_w]; rfl
                      refine take_ (i := 14) (N := some 117) (v := ?_) (a' := ?_) #[true, true, true, true, true, true, true, true, true, true, true, true, true, true, true, true, true, true, true, true, false, false, false, false, false, false, false, false, false, false, false, false, false, false, false, false, false, false, false, false, false, false, false] rfl rfl (take_ofW HT_.out HW_.out (by kernel_rfl)) (fun _ _ _ h => h) (Or.inl ⟨by rfl, ?_⟩) hHeld ?_ ?_
                      rotate_left
                      ·rintro w' ⟨s0, s1, s2, s3, s4, s5, s6, s7, s8⟩
                       go_simp
                       with_reducible rfl
                      rotate_left
                      ·simp only [Act.put, s1_, s2_, s3_, i64_w, i32_w]; rfl
                      refine take_ (i := 20) (N := some 123) (v := ?_) (a' := ?_) #[true, true, true, true, true, true, true, true, true, true, true, true, true, true, true, true, true, true, true, true, true, false, false, false, false, false, false, false, false, false, false, false, false, false, false, false, false, false, false, false, false, false, false] rfl rfl (take_ofW HT_.out HW_.out (by kernel_rfl)) (fun _ _ _ h => h) (Or.inl ⟨by rfl, ?_⟩) hHeld ?_ ?_
                      rotate_left
                      ·rintro w' ⟨s0, s1, s2, s3, s4, s5, s6, s7, s8⟩
                       go_simp
                       with_reducible rfl
                      rotate_left
                      ·simp only [Act.put, s1_, s2_, s3_, i64_w, i32_w]; rfl
                      refine pure_ (i := 21) (N := some 124) (v := ?_) (a' := ?_) (bz_ 43 4194303) rfl rfl (any_of HT_.out (by kernel_rfl)) (fun _ _ _ h => h) (Or.inl ⟨by rfl, ?_⟩) ?_ ?_
                      rotate_left; intro w'; go_simp; with_reducible rfl; rotate_left; simp only [Act.put, s1_, s2_, s3_, i64_w, i32_w]; rfl
                      refine pure_ (i := 22) (N := some 125) (v := ?_) (a' := ?_) (bz_ 43 8388607) rfl rfl (any_of HT_.out (by kernel_rfl)) (fun _ _ _ h => h) (Or.inl ⟨by rfl, ?_⟩) ?_ ?_
                      rotate_left; intro w'; go_simp; with_reducible rfl; rotate_left; simp only [Act.put, s1_, s2_, s3_, i64_w, i32_w]; rfl
                      refine pure_ (i := 23) (N := some 126) (v := ?_) (a' := ?_) (bz_ 43 16777215) rfl rfl (any_of HT_.out (by kernel_rfl)) (fun _ _ _ h => h) (Or.inl ⟨by rfl, ?_⟩) ?_ ?_
                      rotate_left; intro w'; go_simp; with_reducible rfl; rotate_left; simp only [Act.put, s1_, s2_, s3_, i64_w, i32_w]; rfl
                      refine pure_ (i := 24) (N := some 127) (v := ?_) (a' := ?_) (bz_ 43 33554431) rfl rfl (any_of HT_.out (by kernel_rfl)) (fun _ _ _ h => h) (Or.inl ⟨by rfl, ?_⟩) ?_ ?_
                      rotate_left; intro w'; go_simp; with_reducible rfl; rotate_left; simp only [Act.put, s1_, s2_, s3_, i64_w, i32_w]; rfl
                      refine pure_ (i := 25) (N := some 128) (v := undef) (a' := ?_) (bz_ 43 67108863) rfl rfl (any_of HT_.out (by kernel_rfl)) (fun _ _ _ h => h) (Or.inr ⟨by rfl, rfl⟩) ?_ ?_
                      rotate_left
                      ·simp only [Act.put, s1_, s2_, s3_, i64_w, i32_w]; rfl
                      refine pure_ (i := 26) (N := some 129) (v := undef) (a' := ?_) (bz_ 43 134217727) rfl rfl (any_of HT_.out (by kernel_rfl)) (fun _ _ _ h => h) (Or.inr ⟨by rfl, rfl⟩) ?_ ?_
                      rotate_left
                      ·simp only [Act.put, s1_, s2_, s3_, i64_w, i32_w]; rfl
                      refine pure_ (i := 27) (N := some 130) (v := undef) (a' := ?_) (bz_ 43 268435455) rfl rfl (any_of HT_.out (by kernel_rfl)) (fun _ _ _ h => h) (Or.inr ⟨by rfl, rfl⟩) ?_ ?_
                      rotate_left
                      ·simp only [Act.put, s1_, s2_, s3_, i64_w, i32_w]; rfl
                      refine pure_ (i := 28) (N := some 131) (v := undef) (a' := ?_) (bz_ 43 536870911) rfl rfl (any_of HT_.out (by kernel_rfl)) (fun _ _ _ h => h) (Or.inr ⟨by rfl, rfl⟩) ?_ ?_
                      rotate_left
                      ·simp only [Act.put, s1_, s2_, s3_, i64_w, i32_w]; rfl
                      refine pure_ (i := 29) (N := some 132) (v := undef) (a' := ?_) (bz_ 43 1073741823) rfl rfl (any_of HT_.out (by kernel_rfl)) (fun _ _ _ h => h) (Or.inr ⟨by rfl, rfl⟩) ?_ ?_
                      rotate_left
                      ·simp only [Act.put, s1_, s2_, s3_, i64_w, i32_w]; rfl
                      refine pure_ (i := 30) (N := some 133) (v := undef) (a' := ?_) (bz_ 43 2147483647) rfl rfl (any_of HT_.out (by kernel_rfl)) (fun _ _ _ h => h) (Or.inr ⟨by rfl, rfl⟩) ?_ ?_
                      rotate_left
                      ·simp only [Act.put, s1_, s2_, s3_, i64_w, i32_w]; rfl
                      refine pure_ (i := 31) (N := some 134) (v := ?_) (a' := ?_) (bz_ 43 4294967295) rfl rfl (any_of HT_.out (by kernel_rfl)) (fun _ _ _ h => h) (Or.inl ⟨by rfl, ?_⟩) ?_ ?_
                      rotate_left; intro w'; go_simp; with_reducible rfl; rotate_left; simp only [Act.put, s1_, s2_, s3_, i64_w, i32_w]; rfl
                      refine pure_ (i := 32) (N := some 135) (v := ?_) (a' := ?_) (bz_ 43 8589934591) rfl rfl (any_of HT_.out (by kernel_rfl)) (fun _ _ _ h => h) (Or.inl ⟨by rfl, ?_⟩) ?_ ?_
                      rotate_left; intro w'; go_simp; with_reducible rfl; rotate_left; simp only [Act.put, s1_, s2_, s3_, i64_w, i32_w]; rfl
                      refine pure_ (i := 33) (N := some 136) (v := undef) (a' := ?_) (bz_ 43 17179869183) rfl rfl (any_of HT_.out (by kernel_rfl)) (fun _ _ _ h => h) (Or.inr ⟨by rfl, rfl⟩) ?_ ?_
                      rotate_left
                      ·simp only [Act.put, s1_, s2_, s3_, i64_w, i32_w]; rfl
                      refine pure_ (i := 34) (N := some 137) (v := undef) (a' := ?_) (bz_ 43 34359738367) rfl rfl (any_of HT_.out (by kernel_rfl)) (fun _ _ _ h => h) (Or.inr ⟨by rfl, rfl⟩) ?_ ?_
                      rotate_left
                      ·simp only [Act.put, s1_, s2_, s3_, i64_w, i32_w]; rfl
                      refine pure_ (i := 35) (N := some 138) (v := undef) (a' := ?_) (bz_ 43 68719476735) rfl rfl (any_of HT_.out (by kernel_rfl)) (fun _ _ _ h => h) (Or.inr ⟨by rfl, rfl⟩) ?_ ?_
                      rotate_left
                      ·simp only [Act.put, s1_, s2_, s3_, i64_w, i32_w]; rfl
                      refine pure_ (i := 36) (N := some 139) (v := undef) (a' := ?_) (bz_ 43 137438953471) rfl rfl (any_of HT_.out (by kernel_rfl)) (fun _ _ _ h => h) (Or.inr ⟨by rfl, rfl⟩) ?_ ?_
                      rotate_left
                      ·simp only [Act.put, s1_, s2_, s3_, i64_w, i32_w]; rfl
                      refine pure_ (i := 37) (N := some 140) (v := undef) (a' := ?_) (bz_ 43 274877906943) rfl rfl (any_of HT_.out (by kernel_rfl)) (fun _ _ _ h => h) (Or.inr ⟨by rfl, rfl⟩) ?_ ?_
                      rotate_left
                      ·simp only [Act.put, s1_, s2_, s3_, i64_w, i32_w]; rfl
                      refine pure_ (i := 38) (N := some 141) (v := undef) (a' := ?_) (bz_ 43 549755813887) rfl rfl (any_of HT_.out (by kernel_rfl)) (fun _ _ _ h => h) (Or.inr ⟨by rfl, rfl⟩) ?_ ?_
                      rotate_left
                      ·simp only [Act.put, s1_, s2_, s3_, i64_w, i32_w]; rfl
                      refine pure_ (i := 39) (N := some 142) (v := undef) (a' := ?_) (bz_ 43 1099511627775) rfl rfl (any_of HT_.out (by kernel_rfl)) (fun _ _ _ h => h) (Or.inr ⟨by rfl, rfl⟩) ?_ ?_
                      rotate_left
                      ·simp only [Act.put, s1_, s2_, s3_, i64_w, i32_w]; rfl
                      refine pure_ (i := 40) (N := some 143) (v := undef) (a' := ?_) (bz_ 43 2199023255551) rfl rfl (any_of HT_.out (by kernel_rfl)) (fun _ _ _ h => h) (Or.inr ⟨by rfl, rfl⟩) ?_ ?_
                      rotate_left
                      ·simp only [Act.put, s1_, s2_, s3_, i64_w, i32_w]; rfl
                      refine pure_ (i := 41) (N := some 144) (v := undef) (a' := ?_) (bz_ 43 4398046511103) rfl rfl (any_of HT_.out (by kernel_rfl)) (fun _ _ _ h => h) (Or.inr ⟨by rfl, rfl⟩) ?_ ?_
                      rotate_left
                      ·simp only [Act.put, s1_, s2_, s3_, i64_w, i32_w]; rfl
                      refine pure_ (i := 42) (N := some 145) (v := ?_) (a' := ?_) (bz_ 43 8796093022207) rfl rfl (any_of HT_.out (by kernel_rfl)) (fun _ _ _ h => h) (Or.inl ⟨by rfl, ?_⟩) ?_ ?_
                      rotate_left; intro w'; go_simp; with_reducible rfl; rotate_left; simp only [Act.put, s1_, s2_, s3_, i64_w, i32_w]; rfl
                      refine done_ (done_of HT_.out (by kernel_rfl)) ?_
                      try go_wp2
                      go_meet
                      case rel => exact ⟨_, (true), (by first | rfl | (simp; done) | (simp [*]; done)), H', ⟨by have := HK1.out; have := HJ38.out; have := HK3.out; first | omega | exact Nat.le_refl _⟩, ⟨by (with_reducible repeat (first | apply Kd.R_alloc | apply Kd.R_drewN | apply Kd.R_drew)); exact HO_12.out⟩, ⟨by (with_reducible repeat (first | apply Kd.R_alloc | apply Kd.R_drewN | apply Kd.R_drew)); exact HO_15.out⟩, ⟨by repeat (first | (with_reducible first | exact HB.out | apply below_alloc | apply pw_below_drewN | apply below_drew1) | exact HB.out)⟩⟩
                     ·rw [if_neg c62] at H
                      have c62b0 : decide (((rd_T25 t306 x100_3).f2) < ((rd_T25 t306 (ji59)).f2)) = false := decide_eq_false c62
                      clear c62
                      by_cases c65 : ((rd_T25 t306 x100_3).f2) < 3
                      ·rw [if_pos c65] at H
                       have c65b0 : decide (((rd_T25 t306 x100_3).f2) < 3) = true := decide_eq_true c65
                       clear c65
                       have H' := Aside0.mk H
                       clear H
                       try go_wp2
                       have n0_ := Aside0.mk (Kd.R_drew HO_12.out)
                       have n1_ := Aside0.mk (Kd.R_drew HO_15.out)
                       have n2_ := Aside0.mk (below_drew1 HB.out)
                       clear HO_12
                       clear HO_15
                       clear HB
                       have HO_12 := n0_
                       have HO_15 := n1_
                       have HB := n2_
                       clear n0_ n1_ n2_
                       obtain ⟨Ao67, co67, eo67⟩ := Kd.R_slice HO_12.out
                       (first | subst eo67 | (injection eo67 with f1_ f2_ f3_; have f4_ := f1_.symm; have f5_ := f3_.symm; clear f1_ f2_ f3_; subst f4_; subst f5_))
                       have p312 : 0 ≤ (x100_3 : Int) := of_decide_eq_true (by first | (with_reducible assumption) | assumption)
                       have q312 : x100_3 < (t301.length : Int) := of_decide_eq_true (by first | (with_reducible assumption) | assumption)
                       obtain ⟨ad312, e312, hx312_0, hx312_1, hx312_2⟩ := at_T25 (Kd.R_reads' HO_12.out).2.2 x100_3 p312 q312
                       cases e312
                       replace p312 := eq_true p312
                       replace q312 := eq_true q312
                       have p313 : 0 ≤ (x100_3 : Int) := of_decide_eq_true (by first | (with_reducible assumption) | assumption)
                       have q313 : x100_3 < (t306.length : Int) := of_decide_eq_true (by first | (with_reducible assumption) | assumption)
                       obtain ⟨ad313, e313, hx313_0, hx313_1, hx313_2⟩ := at_T25 (Kd.R_reads' HO_15.out).2.2 x100_3 p313 q313
                       cases e313
                       replace p313 := eq_true p313
                       replace q313 := eq_true q313
                       have p314 : 0 ≤ ((ji59) : Int) := of_decide_eq_true (by first | (with_reducible assumption) | assumption)
                       have q314 : (ji59) < (t306.length : Int) := of_decide_eq_true (by first | (with_reducible assumption) | assumption)
                       obtain ⟨ad314, e314, hx314_0, hx314_1, hx314_2⟩ := at_T25 (Kd.R_reads' HO_15.out).2.2 (ji59) p314 q314
                       obtain rfl : ad313 = ad314 := (by injection e314)
                       replace p314 := eq_true p314
                       replace q314 := eq_true q314
                       have p315 : 0 ≤ (x100_3 : Int) := of_decide_eq_true (by first | (with_reducible assumption) | assumption)
                       have q315 : x100_3 < (t306.length : Int) := of_decide_eq_true (by first | (with_reducible assumption) | assumption)
                       obtain ⟨ad315, e315, hx315_0, hx315_1, hx315_2⟩ := at_T25 (Kd.R_reads' HO_15.out).2.2 x100_3 p315 q315
                       obtain rfl : ad313 = ad315 := (by injection e315)
                       replace p315 := eq_true p315
                       replace q315 := eq_true q315
                       refine start_ (n := 43) (S := fun w' => w'.cell? (ad312.add ((x100_3).toNat * 3)) = some (.int .i64 ((rd_T25 t301 x100_3).f0)) ∧ w'.cell? ⟨(ad312.add ((x100_3).toNat * 3)).block, (ad312.add ((x100_3).toNat * 3)).off + 1, none⟩ = some (.string ((rd_T25 t301 x100_3).f1)) ∧ w'.cell? ⟨(ad312.add ((x100_3).toNat * 3)).block, (ad312.add ((x100_3).toNat * 3)).off + 2, none⟩ = some (.int .i64 ((rd_T25 t301 x100_3).f2)) ∧ w'.cell? (ad313.add ((x100_3).toNat * 3)) = some (.int .i64 ((rd_T25 t306 x100_3).f0)) ∧ w'.cell? ⟨(ad313.add ((x100_3).toNat * 3)).block, (ad313.add ((x100_3).toNat * 3)).off + 1, none⟩ = some (.string ((rd_T25 t306 x100_3).f1)) ∧ w'.cell? ⟨(ad313.add ((x100_3).toNat * 3)).block, (ad313.add ((x100_3).toNat * 3)).off + 2, none⟩ = some (.int .i64 ((rd_T25 t306 x100_3).f2)) ∧ w'.cell? (ad313.add (((ji59)).toNat * 3)) = some (.int .i64 ((rd_T25 t306 (ji59)).f0)) ∧ w'.cell? ⟨(ad313.add (((ji59)).toNat * 3)).block, (ad313.add (((ji59)).toNat * 3)).off + 1, none⟩ = some (.string ((rd_T25 t306 (ji59)).f1)) ∧ w'.cell? ⟨(ad313.add (((ji59)).toNat * 3)).block, (ad313.add (((ji59)).toNat * 3)).off + 2, none⟩ = some (.int .i64 ((rd_T25 t306 (ji59)).f2)) ∧ w'.cell? (ad313.add ((x100_3).toNat * 3)) = some (.int .i64 ((rd_T25 t306 x100_3).f0)) ∧ w'.cell? ⟨(ad313.add ((x100_3).toNat * 3)).block, (ad313.add ((x100_3).toNat * 3)).off + 1, none⟩ = some (.string ((rd_T25 t306 x100_3).f1)) ∧ w'.cell? ⟨(ad313.add ((x100_3).toNat * 3)).block, (ad313.add ((x100_3).toNat * 3)).off + 2, none⟩ = some (.int .i64 ((rd_T25 t306 x100_3).f2))) (ds := []) #[false, false, false, false, false, false, false, false, false, false, false, false, false, false, false, false, false, false, false, false, false, false, false, false, false, false, false, false, false, false, false, false, false, false, false, false, false, false, false, false, false, false, false] (by kernel_rfl) rfl rfl ⟨hx312_0, hx312_1, hx312_2, hx313_0, hx313_1, hx313_2, hx314_0, hx314_1, hx314_2, hx315_0, hx315_1, hx315_2⟩ (fun hHeld => ?_); refine with_tabW gonglaw14_LexBlanks.tab24 gonglaw14_LexBlanks.bits24 (fun HT_ HW_ => ?_)
                       generalize wr.drew = w66 at HO_12 HO_15 HB hx312_0 hx312_1 hx312_2 hx313_0 hx313_1 hx313_2 hx314_0 hx314_1 hx314_2 hx315_0 hx315_1 hx315_2 hHeld ⊢
                       refine pure_ (i := 0) (N := some 103) (v := ?_) (a' := ?_) (bz_ 43 1) rfl rfl (any_of HT_.out (by kernel_rfl)) (fun _ _ _ h => h) (Or.inl ⟨by rfl, ?_⟩) ?_ ?_
                       rotate_left; intro w'; go_simp; with_reducible rfl; rotate_left; simp only [Act.put, s1_, s2_, s3_, i64_w, i32_w]; rfl
                       refine pure_ (i := 1) (N := some 104) (v := ?_) (a' := ?_) (bz_ 43 3) rfl rfl (any_of HT_.out (by kernel_rfl)) (fun _ _ _ h => h) (Or.inl ⟨by rfl, ?_⟩) ?_ ?_
                       rotate_left; intro w'; go_simp; with_reducible rfl; rotate_left; simp only [Act.put, s1_, s2_, s3_, i64_w, i32_w]; rfl
                       refine pure_ (i := 2) (N := some 105) (v := ?_) (a' := ?_) (bz_ 43 7) rfl rfl (any_of HT_.out (by kernel_rfl)) (fun _ _ _ h => h) (Or.inl ⟨by rfl, ?_⟩) ?_ ?_
                       rotate_left; intro w'; go_simp; with_reducible rfl; rotate_left; simp only [Act.put, s1_, s2_, s3_, i64_w, i32_w]; rfl
                       refine pure_ (i := 3) (N := some 106) (v := ?_) (a' := ?_) (bz_ 43 15) rfl rfl (any_of HT_.out (by kernel_rfl)) (fun _ _ _ h => h) (Or.inl ⟨by rfl, ?_⟩) ?_ ?_
                       rotate_left; intro w'; go_simp; with_reducible rfl; rotate_left; simp only [Act.put, s1_, s2_, s3_, i64_w, i32_w]; rfl
                       refine take_ (i := 4) (N := some 107) (v := ?_) (a' := ?_) #[true, true, true, true, true, false, false, false, false, false, false, false, false, false, false, false, false, false, false, false, false, false, false, false, false, false, false, false, false, false, false, false, false, false, false, false, false, false, false, false, false, false, false] rfl rfl (take_ofW HT_.out HW_.out (by kernel_rfl)) (fun _ _ _ h => h) (Or.inl ⟨by rfl, ?_⟩) hHeld ?_ ?_
                       rotate_left
                       ·rintro w' ⟨s0, s1, s2, s3, s4, s5, s6, s7, s8, s9, s10, s11⟩
                        go_simp
                        with_reducible rfl
                       rotate_left
                       ·simp only [Act.put, s1_, s2_, s3_, i64_w, i32_w]; rfl
                       refine pure_ (i := 5) (N := some 108) (v := ?_) (a' := ?_) (bz_ 43 63) rfl rfl (any_of HT_.out (by kernel_rfl)) (fun _ _ _ h => h) (Or.inl ⟨by rfl, ?_⟩) ?_ ?_
                       rotate_left; intro w'; go_simp; with_reducible rfl; rotate_left; simp only [Act.put, s1_, s2_, s3_, i64_w, i32_w]; rfl
                       refine pure_ (i := 6) (N := some 109) (v := ?_) (a' := ?_) (bz_ 43 127) rfl rfl (any_of HT_.out (by kernel_rfl)) (fun _ _ _ h => h) (Or.inl ⟨by rfl, ?_⟩) ?_ ?_
                       rotate_left; intro w'; go_simp; with_reducible rfl; rotate_left; simp only [Act.put, s1_, s2_, s3_, i64_w, i32_w]; rfl
                       refine pure_ (i := 7) (N := some 110) (v := ?_) (a' := ?_) (bz_ 43 255) rfl rfl (any_of HT_.out (by kernel_rfl)) (fun _ _ _ h => h) (Or.inl ⟨by rfl, ?_⟩) ?_ ?_
                       rotate_left; intro w'; go_simp; with_reducible rfl; rotate_left; simp only [Act.put, s1_, s2_, s3_, i64_w, i32_w]; rfl
                       refine pure_ (i := 8) (N := some 111) (v := ?_) (a' := ?_) (bz_ 43 511) rfl rfl (any_of HT_.out (by kernel_rfl)) (fun _ _ _ h => h) (Or.inl ⟨by rfl, ?_⟩) ?_ ?_
                       rotate_left; intro w'; go_simp; with_reducible rfl; rotate_left; simp only [Act.put, s1_, s2_, s3_, i64_w, i32_w]; rfl
                       refine pure_ (i := 9) (N := some 112) (v := ?_) (a' := ?_) (bz_ 43 1023) rfl rfl (any_of HT_.out (by kernel_rfl)) (fun _ _ _ h => h) (Or.inl ⟨by rfl, ?_⟩) ?_ ?_
                       rotate_left; intro w'; go_simp; with_reducible rfl; rotate_left; simp only [Act.put, s1_, s2_, s3_, i64_w, i32_w]; rfl
                       refine pure_ (i := 10) (N := some 113) (v := ?_) (a' := ?_) (bz_ 43 2047) rfl rfl (any_of HT_.out (by kernel_rfl)) (fun _ _ _ h => h) (Or.inl ⟨by rfl, ?_⟩) ?_ ?_
                       rotate_left; intro w'; go_simp; with_reducible rfl; rotate_left; simp only [Act.put, s1_, s2_, s3_, i64_w, i32_w]; rfl
                       refine pure_ (i := 11) (N := some 114) (v := ?_) (a' := ?_) (bz_ 43 4095) rfl rfl (any_of HT_.out (by kernel_rfl)) (fun _ _ _ h => h) (Or.inl ⟨by rfl, ?_⟩) ?_ ?_
                       rotate_left; intro w'; go_simp; with_reducible rfl; rotate_left; simp only [Act.put, s1_, s2_, s3_, i64_w, i32_w]; rfl
                       refine pure_ (i := 12) (N := some 115) (v := ?_) (a' := ?_) (bz_ 43 8191) rfl rfl (any_of HT_.out (by kernel_rfl)) (fun _ _ _ h => h) (Or.inl ⟨by rfl, ?_⟩) ?_ ?_
                       rotate_left; intro w'; go_simp; with_reducible rfl; rotate_left; simp only [Act.put, s1_, s2_, s3_, i64_w, i32_w]; rfl
                       refine pure_ (i := 13) (N := some 116) (v := ?_) (a' := ?_) (bz_ 43 16383) rfl rfl (any_of HT_.out (by kernel_rfl)) (fun _ _ _ h => h) (Or.inl ⟨by rfl, ?_⟩) ?_ ?_
                       rotate_left; intro w'; go_simp; with_reducible rfl; rotate_left; simp only [Act.put, s1_, s2_, s3_, i64_w, i32_w]; rfl
                       refine pure_ (i := 15) (N := some 118) (v := ?_) (a' := ?_) (bz_ 43 49151) rfl rfl (any_of HT_.out (by kernel_rfl)) (fun _ _ _ h => h) (Or.inl ⟨by rfl, ?_⟩) ?_ ?_
                       rotate_left; intro w'; go_simp; with_reducible rfl; rotate_left; simp only [Act.put, s1_, s2_, s3_, i64_w, i32_w]; rfl
                       refine pure_ (i := 16) (N := some 119) (v := ?_) (a' := ?_) (bz_ 43 114687) rfl rfl (any_of HT_.out (by kernel_rfl)) (fun _ _ _ h => h) (Or.inl ⟨by rfl, ?_⟩) ?_ ?_
                       rotate_left; intro w'; go_simp; with_reducible rfl; rotate_left; simp only [Act.put, s1_, s2_, s3_, i64_w, i32_w]; rfl
                       refine pure_ (i := 17) (N := some 120) (v := ?_) (a' := ?_) (bz_ 43 245759) rfl rfl (any_of HT_.out (by kernel_rfl)) (fun _ _ _ h => h) (Or.inl ⟨by rfl, ?_⟩) ?_ ?_
                       rotate_left; intro w'; go_simp; with_reducible rfl; rotate_left; simp only [Act.put, s1_, s2_, s3_, i64_w, i32_w]; rfl
                       refine pure_ (i := 18) (N := some 121) (v := ?_) (a' := ?_) (bz_ 43 507903) rfl rfl (any_of HT_.out (by kernel_rfl)) (fun _ _ _ h => h) (Or.inl ⟨by rfl, ?_⟩) ?_ ?_
                       rotate_left; intro w'; go_simp; with_reducible rfl; rotate_left; simp only [Act.put, s1_, s2_, s3_, i64_w, i32_w]; rfl
                       refine pure_ (i := 19) (N := some 122) (v := ?_) (a' := ?_) (bz_ 43 1032191) rfl rfl (any_of HT_.out (by kernel_rfl)) (fun _ _ _ h => h) (Or.inl ⟨by rfl, ?_⟩) ?_ ?_
                       rotate_left; intro w'; go_simp; with_reducible rfl; rotate_left; simp only [Act.put, s1_, s2_, s3_, i64_w, i32_w]; rfl
                       refine take_ (i := 14) (N := some 117) (v := ?_) (a' := ?_) #[true, true, true, true, true, true, true, true, true, true, true, true, true, true, true, true, true, true, true, true, false, false, false, false, false, false, false, false, false, false, false, false, false, false, false, false, false, false, false, false, false, false, false] rfl rfl (take_ofW HT_.out HW_.out (by kernel_rfl)) (fun _ _ _ h => h) (Or.inl ⟨by rfl, ?_⟩) hHeld ?_ ?_
                       rotate_left
                       ·rintro w' ⟨s0, s1, s2, s3, s4, s5, s6, s7, s8, s9, s10, s11⟩
                        go_simp
                        with_reducible rfl
                       rotate_left
                       ·simp only [Act.put, s1_, s2_, s3_, i64_w, i32_w]; rfl
                       refine take_ (i := 20) (N := some 123) (v := ?_) (a' := ?_) #[true, true, true, true, true, true, true, true, true, true, true, true, true, true, true, true, true, true, true, true, true, false, false, false, false, false, false, false, false, false, false, false, false, false, false, false, false, false, false, false, false, false, false] rfl rfl (take_ofW HT_.out HW_.out (by kernel_rfl)) (fun _ _ _ h => h) (Or.inl ⟨by rfl, ?_⟩) hHeld ?_ ?_
                       rotate_left
                       ·rintro w' ⟨s0, s1, s2, s3, s4, s5, s6, s7, s8, s9, s10, s11⟩
                        go_simp
                        with_reducible rfl
                       rotate_left
                       ·simp only [Act.put, s1_, s2_, s3_, i64_w, i32_w]; rfl
                       refine pure_ (i := 21) (N := some 124) (v := ?_) (a' := ?_) (bz_ 43 4194303) rfl rfl (any_of HT_.out (by kernel_rfl)) (fun _ _ _ h => h) (Or.inl ⟨by rfl, ?_⟩) ?_ ?_
                       rotate_left; intro w'; go_simp; with_reducible rfl; rotate_left; simp only [Act.put, s1_, s2_, s3_, i64_w, i32_w]; rfl
                       refine pure_ (i := 22) (N := some 125) (v := ?_) (a' := ?_) (bz_ 43 8388607) rfl rfl (any_of HT_.out (by kernel_rfl)) (fun _ _ _ h => h) (Or.inl ⟨by rfl, ?_⟩) ?_ ?_
                       rotate_left; intro w'; go_simp; with_reducible rfl; rotate_left; simp only [Act.put, s1_, s2_, s3_, i64_w, i32_w]; rfl
                       refine pure_ (i := 23) (N := some 126) (v := ?_) (a' := ?_) (bz_ 43 16777215) rfl rfl (any_of HT_.out (by kernel_rfl)) (fun _ _ _ h => h) (Or.inl ⟨by rfl, ?_⟩) ?_ ?_
                       rotate_left; intro w'; go_simp; with_reducible rfl; rotate_left; simp only [Act.put, s1_, s2_, s3_, i64_w, i32_w]; rfl
                       refine pure_ (i := 24) (N := some 127) (v := ?_) (a' := ?_) (bz_ 43 33554431) rfl rfl (any_of HT_.out (by kernel_rfl)) (fun _ _ _ h => h) (Or.inl ⟨by rfl, ?_⟩) ?_ ?_
                       rotate_left; intro w'; go_simp; with_reducible rfl; rotate_left; simp only [Act.put, s1_, s2_, s3_, i64_w, i32_w]; rfl
                       refine pure_ (i := 25) (N := some 128) (v := ?_) (a' := ?_) (bz_ 43 67108863) rfl rfl (any_of HT_.out (by kernel_rfl)) (fun _ _ _ h => h) (Or.inl ⟨by rfl, ?_⟩) ?_ ?_
                       rotate_left; intro w'; go_simp; with_reducible rfl; rotate_left; simp only [Act.put, s1_, s2_, s3_, i64_w, i32_w]; rfl
                       refine pure_ (i := 26) (N := some 129) (v := ?_) (a' := ?_) (bz_ 43 134217727) rfl rfl (any_of HT_.out (by kernel_rfl)) (fun _ _ _ h => h) (Or.inl ⟨by rfl, ?_⟩) ?_ ?_
                       rotate_left; intro w'; go_simp; with_reducible rfl; rotate_left; simp only [Act.put, s1_, s2_, s3_, i64_w, i32_w]; rfl
                       refine pure_ (i := 27) (N := some 130) (v := ?_) (a' := ?_) (bz_ 43 268435455) rfl rfl (any_of HT_.out (by kernel_rfl)) (fun _ _ _ h => h) (Or.inl ⟨by rfl, ?_⟩) ?_ ?_
                       rotate_left; intro w'; go_simp; with_reducible rfl; rotate_left; simp only [Act.put, s1_, s2_, s3_, i64_w, i32_w]; rfl
                       refine pure_ (i := 28) (N := some 131) (v := ?_) (a' := ?_) (bz_ 43 536870911) rfl rfl (any_of HT_.out (by kernel_rfl)) (fun _ _ _ h => h) (Or.inl ⟨by rfl, ?_⟩) ?_ ?_
                       rotate_left; intro w'; go_simp; with_reducible rfl; rotate_left; simp only [Act.put, s1_, s2_, s3_, i64_w, i32_w]; rfl
                       refine take_ (i := 29) (N := some 132) (v := ?_) (a' := ?_) #[true, true, true, true, true, true, true, true, true, true, true, true, true, true, true, true, true, true, true, true, true, true, true, true, true, true, true, true, true, true, false, false, false, false, false, false, false, false, false, false, false, false, false] rfl rfl (take_ofW HT_.out HW_.out (by kernel_rfl)) (fun _ _ _ h => h) (Or.inl ⟨by rfl, ?_⟩) hHeld ?_ ?_
                       rotate_left
                       ·rintro w' ⟨s0, s1, s2, s3, s4, s5, s6, s7, s8, s9, s10, s11⟩
                        go_simp
                        with_reducible rfl
                       rotate_left
                       ·simp only [Act.put, s1_, s2_, s3_, i64_w, i32_w]; rfl
                       refine pure_ (i := 30) (N := some 133) (v := ?_) (a' := ?_) (bz_ 43 2147483647) rfl rfl (any_of HT_.out (by kernel_rfl)) (fun _ _ _ h => h) (Or.inl ⟨by rfl, ?_⟩) ?_ ?_
                       rotate_left; intro w'; go_simp; with_reducible rfl; rotate_left; simp only [Act.put, s1_, s2_, s3_, i64_w, i32_w]; rfl
                       refine pure_ (i := 31) (N := some 134) (v := ?_) (a' := ?_) (bz_ 43 4294967295) rfl rfl (any_of HT_.out (by kernel_rfl)) (fun _ _ _ h => h) (Or.inl ⟨by rfl, ?_⟩) ?_ ?_
                       rotate_left; intro w'; go_simp; with_reducible rfl; rotate_left; simp only [Act.put, s1_, s2_, s3_, i64_w, i32_w]; rfl
                       refine pure_ (i := 32) (N := some 135) (v := ?_) (a' := ?_) (bz_ 43 8589934591) rfl rfl (any_of HT_.out (by kernel_rfl)) (fun _ _ _ h => h) (Or.inl ⟨by rfl, ?_⟩) ?_ ?_
                       rotate_left; intro w'; go_simp; with_reducible rfl; rotate_left; simp only [Act.put, s1_, s2_, s3_, i64_w, i32_w]; rfl
                       refine pure_ (i := 33) (N := some 136) (v := undef) (a' := ?_) (bz_ 43 17179869183) rfl rfl (any_of HT_.out (by kernel_rfl)) (fun _ _ _ h => h) (Or.inr ⟨by rfl, rfl⟩) ?_ ?_
                       rotate_left
                       ·simp only [Act.put, s1_, s2_, s3_, i64_w, i32_w]; rfl
                       refine pure_ (i := 34) (N := some 137) (v := undef) (a' := ?_) (bz_ 43 34359738367) rfl rfl (any_of HT_.out (by kernel_rfl)) (fun _ _ _ h => h) (Or.inr ⟨by rfl, rfl⟩) ?_ ?_
                       rotate_left
                       ·simp only [Act.put, s1_, s2_, s3_, i64_w, i32_w]; rfl
                       refine pure_ (i := 35) (N := some 138) (v := undef) (a' := ?_) (bz_ 43 68719476735) rfl rfl (any_of HT_.out (by kernel_rfl)) (fun _ _ _ h => h) (Or.inr ⟨by rfl, rfl⟩) ?_ ?_
                       rotate_left
                       ·simp only [Act.put, s1_, s2_, s3_, i64_w, i32_w]; rfl
                       refine pure_ (i := 36) (N := some 139) (v := undef) (a' := ?_) (bz_ 43 137438953471) rfl rfl (any_of HT_.out (by kernel_rfl)) (fun _ _ _ h => h) (Or.inr ⟨by rfl, rfl⟩) ?_ ?_
                       rotate_left
                       ·simp only [Act.put, s1_, s2_, s3_, i64_w, i32_w]; rfl
                       refine pure_ (i := 37) (N := some 140) (v := undef) (a' := ?_) (bz_ 43 274877906943) rfl rfl (any_of HT_.out (by kernel_rfl)) (fun _ _ _ h => h) (Or.inr ⟨by rfl, rfl⟩) ?_ ?_
                       rotate_left
                       ·simp only [Act.put, s1_, s2_, s3_, i64_w, i32_w]; rfl
                       refine pure_ (i := 38) (N := some 141) (v := undef) (a' := ?_) (bz_ 43 549755813887) rfl rfl (any_of HT_.out (by kernel_rfl)) (fun _ _ _ h => h) (Or.inr ⟨by rfl, rfl⟩) ?_ ?_
                       rotate_left
                       ·simp only [Act.put, s1_, s2_, s3_, i64_w, i32_w]; rfl
                       refine pure_ (i := 39) (N := some 142) (v := undef) (a' := ?_) (bz_ 43 1099511627775) rfl rfl (any_of HT_.out (by kernel_rfl)) (fun _ _ _ h => h) (Or.inr ⟨by rfl, rfl⟩) ?_ ?_
                       rotate_left
                       ·simp only [Act.put, s1_, s2_, s3_, i64_w, i32_w]; rfl
                       refine pure_ (i := 40) (N := some 143) (v := undef) (a' := ?_) (bz_ 43 2199023255551) rfl rfl (any_of HT_.out (by kernel_rfl)) (fun _ _ _ h => h) (Or.inr ⟨by rfl, rfl⟩) ?_ ?_
                       rotate_left
                       ·simp only [Act.put, s1_, s2_, s3_, i64_w, i32_w]; rfl
                       refine pure_ (i := 41) (N := some 144) (v := undef) (a' := ?_) (bz_ 43 4398046511103) rfl rfl (any_of HT_.out (by kernel_rfl)) (fun _ _ _ h => h) (Or.inr ⟨by rfl, rfl⟩) ?_ ?_
                       rotate_left
                       ·simp only [Act.put, s1_, s2_, s3_, i64_w, i32_w]; rfl
                       refine pure_ (i := 42) (N := some 145) (v := ?_) (a' := ?_) (bz_ 43 8796093022207) rfl rfl (any_of HT_.out (by kernel_rfl)) (fun _ _ _ h => h) (Or.inl ⟨by rfl, ?_⟩) ?_ ?_
                       rotate_left; intro w'; go_simp; with_reducible rfl; rotate_left; simp only [Act.put, s1_, s2_, s3_, i64_w, i32_w]; rfl
                       refine done_ (done_of HT_.out (by kernel_rfl)) ?_
                       try go_wp2
                       go_meet
                       case rel => exact ⟨_, (true), (by first | rfl | (simp; done) | (simp [*]; done)), H', ⟨by have := HK1.out; have := HJ38.out; have := HK3.out; first | omega | exact Nat.le_refl _⟩, ⟨by (with_reducible repeat (first | apply Kd.R_alloc | apply Kd.R_drewN | apply Kd.R_drew)); exact HO_12.out⟩, ⟨by (with_reducible repeat (first | apply Kd.R_alloc | apply Kd.R_drewN | apply Kd.R_drew)); exact HO_15.out⟩, ⟨by repeat (first | (with_reducible first | exact HB.out | apply below_alloc | apply pw_below_drewN | apply below_drew1) | exact HB.out)⟩⟩
                      ·rw [if_neg c65] at H
                       have c65b0 : decide (((rd_T25 t306 x100_3).f2) < 3) = false := decide_eq_false c65
                       clear c65
                       replace H := Option.bind_eq_some_iff.mp H
                       obtain ⟨t317, A680, H⟩ := H
                       replace H : (gonglaw14_LexBlanks.j3 k3 l0 x7_1 t301 t306 x100_3 (t306.length : Int) x100_3 (decide (((rd_T25 t306 x100_3).f2) > (wrap64 (1 + t317))))) = some r := H
                       have A68 := Aside0.mk A680
                       clear A680
                       have H' := Aside0.mk H
                       clear H
                       try go_wp2
                       have n0_ := Aside0.mk (Kd.R_drew HO_12.out)
                       have n1_ := Aside0.mk (Kd.R_drew HO_15.out)
                       have n2_ := Aside0.mk (below_drew1 HB.out)
                       clear HO_12
                       clear HO_15
                       clear HB
                       have HO_12 := n0_
                       have HO_15 := n1_
                       have HB := n2_
                       clear n0_ n1_ n2_
                       obtain ⟨Ao70, co70, eo70⟩ := Kd.R_slice HO_12.out
                       (first | subst eo70 | (injection eo70 with f1_ f2_ f3_; have f4_ := f1_.symm; have f5_ := f3_.symm; clear f1_ f2_ f3_; subst f4_; subst f5_))
                       have p312 : 0 ≤ (x100_3 : Int) := of_decide_eq_true (by first | (with_reducible assumption) | assumption)
                       have q312 : x100_3 < (t301.length : Int) := of_decide_eq_true (by first | (with_reducible assumption) | assumption)
                       obtain ⟨ad312, e312, hx312_0, hx312_1, hx312_2⟩ := at_T25 (Kd.R_reads' HO_12.out).2.2 x100_3 p312 q312
                       cases e312
                       replace p312 := eq_true p312
                       replace q312 := eq_true q312
                       have p313 : 0 ≤ (x100_3 : Int) := of_decide_eq_true (by first | (with_reducible assumption) | assumption)
                       have q313 : x100_3 < (t306.length : Int) := of_decide_eq_true (by first | (with_reducible assumption) | assumption)
                       obtain ⟨ad313, e313, hx313_0, hx313_1, hx313_2⟩ := at_T25 (Kd.R_reads' HO_15.out).2.2 x100_3 p313 q313
                       cases e313
                       replace p313 := eq_true p313
                       replace q313 := eq_true q313
                       have p314 : 0 ≤ ((ji59) : Int) := of_decide_eq_true (by first | (with_reducible assumption) | assumption)
                       have q314 : (ji59) < (t306.length : Int) := of_decide_eq_true (by first | (with_reducible assumption) | assumption)
                       obtain ⟨ad314, e314, hx314_0, hx314_1, hx314_2⟩ := at_T25 (Kd.R_reads' HO_15.out).2.2 (ji59) p314 q314
                       obtain rfl : ad313 = ad314 := (by injection e314)
                       replace p314 := eq_true p314
                       replace q314 := eq_true q314
                       have p315 : 0 ≤ (x100_3 : Int) := of_decide_eq_true (by first | (with_reducible assumption) | assumption)
                       have q315 : x100_3 < (t306.length : Int) := of_decide_eq_true (by first | (with_reducible assumption) | assumption)
                       obtain ⟨ad315, e315, hx315_0, hx315_1, hx315_2⟩ := at_T25 (Kd.R_reads' HO_15.out).2.2 x100_3 p315 q315
                       obtain rfl : ad313 = ad315 := (by injection e315)
                       replace p315 := eq_true p315
                       replace q315 := eq_true q315
                       have p316 : 0 ≤ (x100_3 : Int) := of_decide_eq_true (by first | (with_reducible assumption) | assumption)
                       have q316 : x100_3 < (t306.length : Int) := of_decide_eq_true (by first | (with_reducible assumption) | assumption)
                       obtain ⟨ad316, e316, hx316_0, hx316_1, hx316_2⟩ := at_T25 (Kd.R_reads' HO_15.out).2.2 x100_3 p316 q316
                       obtain rfl : ad313 = ad316 := (by injection e316)
                       replace p316 := eq_true p316
                       replace q316 := eq_true q316
                       refine start_ (n := 43) (S := fun w' => w'.cell? (ad312.add ((x100_3).toNat * 3)) = some (.int .i64 ((rd_T25 t301 x100_3).f0)) ∧ w'.cell? ⟨(ad312.add ((x100_3).toNat * 3)).block, (ad312.add ((x100_3).toNat * 3)).off + 1, none⟩ = some (.string ((rd_T25 t301 x100_3).f1)) ∧ w'.cell? ⟨(ad312.add ((x100_3).toNat * 3)).block, (ad312.add ((x100_3).toNat * 3)).off + 2, none⟩ = some (.int .i64 ((rd_T25 t301 x100_3).f2)) ∧ w'.cell? (ad313.add ((x100_3).toNat * 3)) = some (.int .i64 ((rd_T25 t306 x100_3).f0)) ∧ w'.cell? ⟨(ad313.add ((x100_3).toNat * 3)).block, (ad313.add ((x100_3).toNat * 3)).off + 1, none⟩ = some (.string ((rd_T25 t306 x100_3).f1)) ∧ w'.cell? ⟨(ad313.add ((x100_3).toNat * 3)).block, (ad313.add ((x100_3).toNat * 3)).off + 2, none⟩ = some (.int .i64 ((rd_T25 t306 x100_3).f2)) ∧ w'.cell? (ad313.add (((ji59)).toNat * 3)) = some (.int .i64 ((rd_T25 t306 (ji59)).f0)) ∧ w'.cell? ⟨(ad313.add (((ji59)).toNat * 3)).block, (ad313.add (((ji59)).toNat * 3)).off + 1, none⟩ = some (.string ((rd_T25 t306 (ji59)).f1)) ∧ w'.cell? ⟨(ad313.add (((ji59)).toNat * 3)).block, (ad313.add (((ji59)).toNat * 3)).off + 2, none⟩ = some (.int .i64 ((rd_T25 t306 (ji59)).f2)) ∧ w'.cell? (ad313.add ((x100_3).toNat * 3)) = some (.int .i64 ((rd_T25 t306 x100_3).f0)) ∧ w'.cell? ⟨(ad313.add ((x100_3).toNat * 3)).block, (ad313.add ((x100_3).toNat * 3)).off + 1, none⟩ = some (.string ((rd_T25 t306 x100_3).f1)) ∧ w'.cell? ⟨(ad313.add ((x100_3).toNat * 3)).block, (ad313.add ((x100_3).toNat * 3)).off + 2, none⟩ = some (.int .i64 ((rd_T25 t306 x100_3).f2)) ∧ w'.cell? (ad313.add ((x100_3).toNat * 3)) = some (.int .i64 ((rd_T25 t306 x100_3).f0)) ∧ w'.cell? ⟨(ad313.add ((x100_3).toNat * 3)).block, (ad313.add ((x100_3).toNat * 3)).off + 1, none⟩ = some (.string ((rd_T25 t306 x100_3).f1)) ∧ w'.cell? ⟨(ad313.add ((x100_3).toNat * 3)).block, (ad313.add ((x100_3).toNat * 3)).off + 2, none⟩ = some (.int .i64 ((rd_T25 t306 x100_3).f2))) (ds := []) #[false, false, false, false, false, false, false, false, false, false, false, false, false, false, false, false, false, false, false, false, false, false, false, false, false, false, false, false, false, false, false, false, false, false, false, false, false, false, false, false, false, false, false] (by kernel_rfl) rfl rfl ⟨hx312_0, hx312_1, hx312_2, hx313_0, hx313_1, hx313_2, hx314_0, hx314_1, hx314_2, hx315_0, hx315_1, hx315_2, hx316_0, hx316_1, hx316_2⟩ (fun hHeld => ?_); refine with_tabW gonglaw14_LexBlanks.tab24 gonglaw14_LexBlanks.bits24 (fun HT_ HW_ => ?_)
                       generalize wr.drew = w69 at HO_12 HO_15 HB hx312_0 hx312_1 hx312_2 hx313_0 hx313_1 hx313_2 hx314_0 hx314_1 hx314_2 hx315_0 hx315_1 hx315_2 hx316_0 hx316_1 hx316_2 hHeld ⊢
                       refine pure_ (i := 0) (N := some 103) (v := ?_) (a' := ?_) (bz_ 43 1) rfl rfl (any_of HT_.out (by kernel_rfl)) (fun _ _ _ h => h) (Or.inl ⟨by rfl, ?_⟩) ?_ ?_
                       rotate_left; intro w'; go_simp; with_reducible rfl; rotate_left; simp only [Act.put, s1_, s2_, s3_, i64_w, i32_w]; rfl
                       refine pure_ (i := 1) (N := some 104) (v := ?_) (a' := ?_) (bz_ 43 3) rfl rfl (any_of HT_.out (by kernel_rfl)) (fun _ _ _ h => h) (Or.inl ⟨by rfl, ?_⟩) ?_ ?_
                       rotate_left; intro w'; go_simp; with_reducible rfl; rotate_left; simp only [Act.put, s1_, s2_, s3_, i64_w, i32_w]; rfl
                       refine pure_ (i := 2) (N := some 105) (v := ?_) (a' := ?_) (bz_ 43 7) rfl rfl (any_of HT_.out (by kernel_rfl)) (fun _ _ _ h => h) (Or.inl ⟨by rfl, ?_⟩) ?_ ?_
                       rotate_left; intro w'; go_simp; with_reducible rfl; rotate_left; simp only [Act.put, s1_, s2_, s3_, i64_w, i32_w]; rfl
                       refine pure_ (i := 3) (N := some 106) (v := ?_) (a' := ?_) (bz_ 43 15) rfl rfl (any_of HT_.out (by kernel_rfl)) (fun _ _ _ h => h) (Or.inl ⟨by rfl, ?_⟩) ?_ ?_
                       rotate_left; intro w'; go_simp; with_reducible rfl; rotate_left; simp only [Act.put, s1_, s2_, s3_, i64_w, i32_w]; rfl
                       refine take_ (i := 4) (N := some 107) (v := ?_) (a' := ?_) #[true, true, true, true, true, false, false, false, false, false, false, false, false, false, false, false, false, false, false, false, false, false, false, false, false, false, false, false, false, false, false, false, false, false, false, false, false, false, false, false, false, false, false] rfl rfl (take_ofW HT_.out HW_.out (by kernel_rfl)) (fun _ _ _ h => h) (Or.inl ⟨by rfl, ?_⟩) hHeld ?_ ?_
                       rotate_left
                       ·rintro w' ⟨s0, s1, s2, s3, s4, s5, s6, s7, s8, s9, s10, s11, s12, s13, s14⟩
                        go_simp
                        with_reducible rfl
                       rotate_left
                       ·simp only [Act.put, s1_, s2_, s3_, i64_w, i32_w]; rfl
                       refine pure_ (i := 5) (N := some 108) (v := ?_) (a' := ?_) (bz_ 43 63) rfl rfl (any_of HT_.out (by kernel_rfl)) (fun _ _ _ h => h) (Or.inl ⟨by rfl, ?_⟩) ?_ ?_
                       rotate_left; intro w'; go_simp; with_reducible rfl; rotate_left; simp only [Act.put, s1_, s2_, s3_, i64_w, i32_w]; rfl
                       refine pure_ (i := 6) (N := some 109) (v := ?_) (a' := ?_) (bz_ 43 127) rfl rfl (any_of HT_.out (by kernel_rfl)) (fun _ _ _ h => h) (Or.inl ⟨by rfl, ?_⟩) ?_ ?_
                       rotate_left; intro w'; go_simp; with_reducible rfl; rotate_left; simp only [Act.put, s1_, s2_, s3_, i64_w, i32_w]; rfl
                       refine pure_ (i := 7) (N := some 110) (v := ?_) (a' := ?_) (bz_ 43 255) rfl rfl (any_of HT_.out (by kernel_rfl)) (fun _ _ _ h => h) (Or.inl ⟨by rfl, ?_⟩) ?_ ?_
                       rotate_left; intro w'; go_simp; with_reducible rfl; rotate_left; simp only [Act.put, s1_, s2_, s3_, i64_w, i32_w]; rfl
                       refine pure_ (i := 8) (N := some 111) (v := ?_) (a' := ?_) (bz_ 43 511) rfl rfl (any_of HT_.out (by kernel_rfl)) (fun _ _ _ h => h) (Or.inl ⟨by rfl, ?_⟩) ?_ ?_
                       rotate_left; intro w'; go_simp; with_reducible rfl; rotate_left; simp only [Act.put, s1_, s2_, s3_, i64_w, i32_w]; rfl
                       refine pure_ (i := 9) (N := some 112) (v := ?_) (a' := ?_) (bz_ 43 1023) rfl rfl (any_of HT_.out (by kernel_rfl)) (fun _ _ _ h => h) (Or.inl ⟨by rfl, ?_⟩) ?_ ?_
                       rotate_left; intro w'; go_simp; with_reducible rfl; rotate_left; simp only [Act.put, s1_, s2_, s3_, i64_w, i32_w]; rfl
                       refine pure_ (i := 10) (N := some 113) (v := ?_) (a' := ?_) (bz_ 43 2047) rfl rfl (any_of HT_.out (by kernel_rfl)) (fun _ _ _ h => h) (Or.inl ⟨by rfl, ?_⟩) ?_ ?_
                       rotate_left; intro w'; go_simp; with_reducible rfl; rotate_left; simp only [Act.put, s1_, s2_, s3_, i64_w, i32_w]; rfl
                       refine pure_ (i := 11) (N := some 114) (v := ?_) (a' := ?_) (bz_ 43 4095) rfl rfl (any_of HT_.out (by kernel_rfl)) (fun _ _ _ h => h) (Or.inl ⟨by rfl, ?_⟩) ?_ ?_
                       rotate_left; intro w'; go_simp; with_reducible rfl; rotate_left; simp only [Act.put, s1_, s2_, s3_, i64_w, i32_w]; rfl
                       refine pure_ (i := 12) (N := some 115) (v := ?_) (a' := ?_) (bz_ 43 8191) rfl rfl (any_of HT_.out (by kernel_rfl)) (fun _ _ _ h => h) (Or.inl ⟨by rfl, ?_⟩) ?_ ?_
                       rotate_left; intro w'; go_simp; with_reducible rfl; rotate_left; simp only [Act.put, s1_, s2_, s3_, i64_w, i32_w]; rfl
                       refine pure_ (i := 13) (N := some 116) (v := ?_) (a' := ?_) (bz_ 43 16383) rfl rfl (any_of HT_.out (by kernel_rfl)) (fun _ _ _ h => h) (Or.inl ⟨by rfl, ?_⟩) ?_ ?_
                       rotate_left; intro w'; go_simp; with_reducible rfl; rotate_left; simp only [Act.put, s1_, s2_, s3_, i64_w, i32_w]; rfl
                       refine pure_ (i := 15) (N := some 118) (v := ?_) (a' := ?_) (bz_ 43 49151) rfl rfl (any_of HT_.out (by kernel_rfl)) (fun _ _ _ h => h) (Or.inl ⟨by rfl, ?_⟩) ?_ ?_
                       rotate_left; intro w'; go_simp; with_reducible rfl; rotate_left; simp only [Act.put, s1_, s2_, s3_, i64_w, i32_w]; rfl
                       refine pure_ (i := 16) (N := some 119) (v := ?_) (a' := ?_) (bz_ 43 114687) rfl rfl (any_of HT_.out (by kernel_rfl)) (fun _ _ _ h => h) (Or.inl ⟨by rfl, ?_⟩) ?_ ?_
                       rotate_left; intro w'; go_simp; with_reducible rfl; rotate_left; simp only [Act.put, s1_, s2_, s3_, i64_w, i32_w]; rfl
                       refine pure_ (i := 17) (N := some 120) (v := ?_) (a' := ?_) (bz_ 43 245759) rfl rfl (any_of HT_.out (by kernel_rfl)) (fun _ _ _ h => h) (Or.inl ⟨by rfl, ?_⟩) ?_ ?_
                       rotate_left; intro w'; go_simp; with_reducible rfl; rotate_left; simp only [Act.put, s1_, s2_, s3_, i64_w, i32_w]; rfl
                       refine pure_ (i := 18) (N := some 121) (v := ?_) (a' := ?_) (bz_ 43 507903) rfl rfl (any_of HT_.out (by kernel_rfl)) (fun _ _ _ h => h) (Or.inl ⟨by rfl, ?_⟩) ?_ ?_
                       rotate_left; intro w'; go_simp; with_reducible rfl; rotate_left; simp only [Act.put, s1_, s2_, s3_, i64_w, i32_w]; rfl
                       refine pure_ (i := 19) (N := some 122) (v := ?_) (a' := ?_) (bz_ 43 1032191) rfl rfl (any_of HT_.out (by kernel_rfl)) (fun _ _ _ h => h) (Or.inl ⟨by rfl, ?_⟩) ?_ ?_
                       rotate_left; intro w'; go_simp; with_reducible rfl; rotate_left; simp only [Act.put, s1_, s2_, s3_, i64_w, i32_w]; rfl
                       refine take_ (i := 14) (N := some 117) (v := ?_) (a' := ?_) #[true, true, true, true, true, true, true, true, true, true, true, true, true, true, true, true, true, true, true, true, false, false, false, false, false, false, false, false, false, false, false, false, false, false, false, false, false, false, false, false, false, false, false] rfl rfl (take_ofW HT_.out HW_.out (by kernel_rfl)) (fun _ _ _ h => h) (Or.inl ⟨by rfl, ?_⟩) hHeld ?_ ?_
                       rotate_left
                       ·rintro w' ⟨s0, s1, s2, s3, s4, s5, s6, s7, s8, s9, s10, s11, s12, s13, s14⟩
                        go_simp
                        with_reducible rfl
                       rotate_left
                       ·simp only [Act.put, s1_, s2_, s3_, i64_w, i32_w]; rfl
                       refine take_ (i := 20) (N := some 123) (v := ?_) (a' := ?_) #[true, true, true, true, true, true, true, true, true, true, true, true, true, true, true, true, true, true, true, true, true, false, false, false, false, false, false, false, false, false, false, false, false, false, false, false, false, false, false, false, false, false, false] rfl rfl (take_ofW HT_.out HW_.out (by kernel_rfl)) (fun _ _ _ h => h) (Or.inl ⟨by rfl, ?_⟩) hHeld ?_ ?_
                       rotate_left
                       ·rintro w' ⟨s0, s1, s2, s3, s4, s5, s6, s7, s8, s9, s10, s11, s12, s13, s14⟩
                        go_simp
                        with_reducible rfl
                       rotate_left
                       ·simp only [Act.put, s1_, s2_, s3_, i64_w, i32_w]; rfl
                       refine pure_ (i := 21) (N := some 124) (v := ?_) (a' := ?_) (bz_ 43 4194303) rfl rfl (any_of HT_.out (by kernel_rfl)) (fun _ _ _ h => h) (Or.inl ⟨by rfl, ?_⟩) ?_ ?_
                       rotate_left; intro w'; go_simp; with_reducible rfl; rotate_left; simp only [Act.put, s1_, s2_, s3_, i64_w, i32_w]; rfl
                       refine pure_ (i := 22) (N := some 125) (v := ?_) (a' := ?_) (bz_ 43 8388607) rfl rfl (any_of HT_.out (by kernel_rfl)) (fun _ _ _ h => h) (Or.inl ⟨by rfl, ?_⟩) ?_ ?_
                       rotate_left; intro w'; go_simp; with_reducible rfl; rotate_left; simp only [Act.put, s1_, s2_, s3_, i64_w, i32_w]; rfl
                       refine pure_ (i := 23) (N := some 126) (v := ?_) (a' := ?_) (bz_ 43 16777215) rfl rfl (any_of HT_.out (by kernel_rfl)) (fun _ _ _ h => h) (Or.inl ⟨by rfl, ?_⟩) ?_ ?_
                       rotate_left; intro w'; go_simp; with_reducible rfl; rotate_left; simp only [Act.put, s1_, s2_, s3_, i64_w, i32_w]; rfl
                       refine pure_ (i := 24) (N := some 127) (v := ?_) (a' := ?_) (bz_ 43 33554431) rfl rfl (any_of HT_.out (by kernel_rfl)) (fun _ _ _ h => h) (Or.inl ⟨by rfl, ?_⟩) ?_ ?_
                       rotate_left; intro w'; go_simp; with_reducible rfl; rotate_left; simp only [Act.put, s1_, s2_, s3_, i64_w, i32_w]; rfl
                       refine pure_ (i := 25) (N := some 128) (v := ?_) (a' := ?_) (bz_ 43 67108863) rfl rfl (any_of HT_.out (by kernel_rfl)) (fun _ _ _ h => h) (Or.inl ⟨by rfl, ?_⟩) ?_ ?_
                       rotate_left; intro w'; go_simp; with_reducible rfl; rotate_left; simp only [Act.put, s1_, s2_, s3_, i64_w, i32_w]; rfl
                       refine pure_ (i := 26) (N := some 129) (v := ?_) (a' := ?_) (bz_ 43 134217727) rfl rfl (any_of HT_.out (by kernel_rfl)) (fun _ _ _ h => h) (Or.inl ⟨by rfl, ?_⟩) ?_ ?_
                       rotate_left; intro w'; go_simp; with_reducible rfl; rotate_left; simp only [Act.put, s1_, s2_, s3_, i64_w, i32_w]; rfl
                       refine pure_ (i := 27) (N := some 130) (v := ?_) (a' := ?_) (bz_ 43 268435455) rfl rfl (any_of HT_.out (by kernel_rfl)) (fun _ _ _ h => h) (Or.inl ⟨by rfl, ?_⟩) ?_ ?_
                       rotate_left; intro w'; go_simp; with_reducible rfl; rotate_left; simp only [Act.put, s1_, s2_, s3_, i64_w, i32_w]; rfl
                       refine pure_ (i := 28) (N := some 131) (v := ?_) (a' := ?_) (bz_ 43 536870911) rfl rfl (any_of HT_.out (by kernel_rfl)) (fun _ _ _ h => h) (Or.inl ⟨by rfl, ?_⟩) ?_ ?_
                       rotate_left; intro w'; go_simp; with_reducible rfl; rotate_left; simp only [Act.put, s1_, s2_, s3_, i64_w, i32_w]; rfl
                       refine take_ (i := 29) (N := some 132) (v := ?_) (a' := ?_) #[true, true, true, true, true, true, true, true, true, true, true, true, true, true, true, true, true, true, true, true, true, true, true, true, true, true, true, true, true, true, false, false, false, false, false, false, false, false, false, false, false, false, false] rfl rfl (take_ofW HT_.out HW_.out (by kernel_rfl)) (fun _ _ _ h => h) (Or.inl ⟨by rfl, ?_⟩) hHeld ?_ ?_
                       rotate_left
                       ·rintro w' ⟨s0, s1, s2, s3, s4, s5, s6, s7, s8, s9, s10, s11, s12, s13, s14⟩
                        go_simp
                        with_reducible rfl
                       rotate_left
                       ·simp only [Act.put, s1_, s2_, s3_, i64_w, i32_w]; rfl
                       refine pure_ (i := 30) (N := some 133) (v := ?_) (a' := ?_) (bz_ 43 2147483647) rfl rfl (any_of HT_.out (by kernel_rfl)) (fun _ _ _ h => h) (Or.inl ⟨by rfl, ?_⟩) ?_ ?_
                       rotate_left; intro w'; go_simp; with_reducible rfl; rotate_left; simp only [Act.put, s1_, s2_, s3_, i64_w, i32_w]; rfl
                       refine pure_ (i := 31) (N := some 134) (v := ?_) (a' := ?_) (bz_ 43 4294967295) rfl rfl (any_of HT_.out (by kernel_rfl)) (fun _ _ _ h => h) (Or.inl ⟨by rfl, ?_⟩) ?_ ?_
                       rotate_left; intro w'; go_simp; with_reducible rfl; rotate_left; simp only [Act.put, s1_, s2_, s3_, i64_w, i32_w]; rfl
                       refine pure_ (i := 32) (N := some 135) (v := ?_) (a' := ?_) (bz_ 43 8589934591) rfl rfl (any_of HT_.out (by kernel_rfl)) (fun _ _ _ h => h) (Or.inl ⟨by rfl, ?_⟩) ?_ ?_
                       rotate_left; intro w'; go_simp; with_reducible rfl; rotate_left; simp only [Act.put, s1_, s2_, s3_, i64_w, i32_w]; rfl
                       refine pure_ (i := 33) (N := some 136) (v := ?_) (a' := ?_) (bz_ 43 17179869183) rfl rfl (any_of HT_.out (by kernel_rfl)) (fun _ _ _ h => h) (Or.inl ⟨by rfl, ?_⟩) ?_ ?_
                       rotate_left; intro w'; go_simp; with_reducible rfl; rotate_left; simp only [Act.put, s1_, s2_, s3_, i64_w, i32_w]; rfl
                       refine pure_ (i := 34) (N := some 137) (v := ?_) (a' := ?_) (bz_ 43 34359738367) rfl rfl (any_of HT_.out (by kernel_rfl)) (fun _ _ _ h => h) (Or.inl ⟨by rfl, ?_⟩) ?_ ?_
                       rotate_left; intro w'; go_simp; with_reducible rfl; rotate_left; simp only [Act.put, s1_, s2_, s3_, i64_w, i32_w]; rfl
                       refine pure_ (i := 35) (N := some 138) (v := ?_) (a' := ?_) (bz_ 43 68719476735) rfl rfl (any_of HT_.out (by kernel_rfl)) (fun _ _ _ h => h) (Or.inl ⟨by rfl, ?_⟩) ?_ ?_
                       rotate_left; intro w'; go_simp; with_reducible rfl; rotate_left; simp only [Act.put, s1_, s2_, s3_, i64_w, i32_w]; rfl
                       refine pure_ (i := 36) (N := some 139) (v := ?_) (a' := ?_) (bz_ 43 137438953471) rfl rfl (any_of HT_.out (by kernel_rfl)) (fun _ _ _ h => h) (Or.inl ⟨by rfl, ?_⟩) ?_ ?_
                       rotate_left; intro w'; go_simp; with_reducible rfl; rotate_left; simp only [Act.put, s1_, s2_, s3_, i64_w, i32_w]; rfl
                       refine pure_ (i := 38) (N := some 141) (v := ?_) (a' := ?_) (bz_ 43 412316860415) rfl rfl (any_of HT_.out (by kernel_rfl)) (fun _ _ _ h => h) (Or.inl ⟨by rfl, ?_⟩) ?_ ?_
                       rotate_left; intro w'; go_simp; with_reducible rfl; rotate_left; simp only [Act.put, s1_, s2_, s3_, i64_w, i32_w]; rfl
                       refine take_ (i := 37) (N := some 140) (v := ?_) (a' := ?_) #[true, true, true, true, true, true, true, true, true, true, true, true, true, true, true, true, true, true, true, true, true, true, true, true, true, true, true, true, true, true, true, true, true, true, true, true, true, true, true, false, false, false, false] rfl rfl (take_ofW HT_.out HW_.out (by kernel_rfl)) (fun _ _ _ h => h) (Or.inl ⟨by rfl, ?_⟩) hHeld ?_ ?_
                       rotate_left
                       ·rintro w' ⟨s0, s1, s2, s3, s4, s5, s6, s7, s8, s9, s10, s11, s12, s13, s14⟩
                        go_simp
                        with_reducible rfl
                       rotate_left
                       ·simp only [Act.put, s1_, s2_, s3_, i64_w, i32_w]; rfl
                       refine one_ (i := 39) (N := some 142) #[true, true, true, true, true, true, true, true, true, true, true, true, true, true, true, true, true, true, true, true, true, true, true, true, true, true, true, true, true, true, true, true, true, true, true, true, true, true, true, true, false, false, false] rfl rfl (one_of HT_.out (by kernel_rfl)) (by decide) (fun K hK => ?_)
                       refine goes_ Tryd.func16 (by kernel_rfl) rfl #[.string x7_1, .string (⟨#[10]⟩ : ByteArray)] (by rfl) rfl rfl (by (try simp only [List.map_toArray, List.map_cons, List.map_nil]); first | done | rfl | (simp only [List.length_drop, List.length_take]; rfl)) ?_
                       with_reducible refine (strings_Count.calls x7_1 (⟨#[10]⟩ : ByteArray) t317 _ A68.out).mono ?_
                       rintro e w' ⟨rfl, ⟨nd, rfl⟩⟩
                       refine ⟨_, rfl, ?_⟩
                       refine hK.out _ _ ⟨hHeld.1, hHeld.2.1, hHeld.2.2.1, hHeld.2.2.2.1, hHeld.2.2.2.2.1, hHeld.2.2.2.2.2.1, hHeld.2.2.2.2.2.2.1, hHeld.2.2.2.2.2.2.2.1, hHeld.2.2.2.2.2.2.2.2.1, hHeld.2.2.2.2.2.2.2.2.2.1, hHeld.2.2.2.2.2.2.2.2.2.2.1, hHeld.2.2.2.2.2.2.2.2.2.2.2.1, hHeld.2.2.2.2.2.2.2.2.2.2.2.2.1, hHeld.2.2.2.2.2.2.2.2.2.2.2.2.2.1, hHeld.2.2.2.2.2.2.2.2.2.2.2.2.2.2⟩ (fun hHeld => ?_)
                       clear hK K
                       refine norm_ (a' := ?_) ?_ ?_
                       rotate_left
                       ·show Act.put _ (some 142) _ = _
                        simp only [Act.put, s1_, s2_, s3_, i64_w, i32_w]
                        rfl
                       refine pure_ (i := 40) (N := some 143) (v := ?_) (a' := ?_) (bz_ 43 2199023255551) rfl rfl (any_of HT_.out (by kernel_rfl)) (fun _ _ _ h => h) (Or.inl ⟨by rfl, ?_⟩) ?_ ?_
                       rotate_left; intro w'; go_simp; with_reducible rfl; rotate_left; simp only [Act.put, s1_, s2_, s3_, i64_w, i32_w]; rfl
                       refine pure_ (i := 41) (N := some 144) (v := ?_) (a' := ?_) (bz_ 43 4398046511103) rfl rfl (any_of HT_.out (by kernel_rfl)) (fun _ _ _ h => h) (Or.inl ⟨by rfl, ?_⟩) ?_ ?_
                       rotate_left; intro w'; go_simp; with_reducible rfl; rotate_left; simp only [Act.put, s1_, s2_, s3_, i64_w, i32_w]; rfl
                       refine pure_ (i := 42) (N := some 145) (v := ?_) (a' := ?_) (bz_ 43 8796093022207) rfl rfl (any_of HT_.out (by kernel_rfl)) (fun _ _ _ h => h) (Or.inl ⟨by rfl, ?_⟩) ?_ ?_
                       rotate_left; intro w'; go_simp; with_reducible rfl; rotate_left; simp only [Act.put, s1_, s2_, s3_, i64_w, i32_w]; rfl
                       refine done_ (done_of HT_.out (by kernel_rfl)) ?_
                       try go_wp2
                       go_meet
                       case rel => exact ⟨_, (decide (((rd_T25 t306 x100_3).f2) > (wrap64 (1 + t317)))), (by first | rfl | (simp; done) | (simp [*]; done)), H', ⟨by have := HK1.out; have := HJ38.out; have := HK3.out; first | omega | exact Nat.le_refl _⟩, ⟨by (with_reducible repeat (first | apply Kd.R_alloc | apply Kd.R_drewN | apply Kd.R_drew)); exact HO_12.out⟩, ⟨by (with_reducible repeat (first | apply Kd.R_alloc | apply Kd.R_drewN | apply Kd.R_drew)); exact HO_15.out⟩, ⟨by repeat (first | (with_reducible first | exact HB.out | apply below_alloc | apply pw_below_drewN | apply below_drew1) | exact HB.out)⟩⟩
                    ·rw [if_neg c61] at H
                     exact absurd H (by simp)
                   ·rw [if_neg c60] at H
                    exact absurd H (by simp)
                  ·rw [if_neg c58] at H
                   exact absurd H (by simp)
                 ·rw [if_neg c57] at H
                  have c57b0 : decide (0 < x100_3) = false := decide_eq_false c57
                  clear c57
                  by_cases c71 : x100_3 < (t306.length : Int)
                  ·rw [if_pos c71] at H
                   have c71b0 : decide (x100_3 < (t306.length : Int)) = true := decide_eq_true c71
                   clear c71
                   by_cases c72 : ((rd_T25 t306 x100_3).f2) < 3
                   ·rw [if_pos c72] at H
                    have c72b0 : decide (((rd_T25 t306 x100_3).f2) < 3) = true := decide_eq_true c72
                    clear c72
                    have H' := Aside0.mk H
                    clear H
                    try go_wp2
                    have n0_ := Aside0.mk (Kd.R_drew HO_12.out)
                    have n1_ := Aside0.mk (Kd.R_drew HO_15.out)
                    have n2_ := Aside0.mk (below_drew1 HB.out)
                    clear HO_12
                    clear HO_15
                    clear HB
                    have HO_12 := n0_
                    have HO_15 := n1_
                    have HB := n2_
                    clear n0_ n1_ n2_
                    obtain ⟨Ao74, co74, eo74⟩ := Kd.R_slice HO_12.out
                    (first | subst eo74 | (injection eo74 with f1_ f2_ f3_; have f4_ := f1_.symm; have f5_ := f3_.symm; clear f1_ f2_ f3_; subst f4_; subst f5_))
                    have p312 : 0 ≤ (x100_3 : Int) := of_decide_eq_true (by first | (with_reducible assumption) | assumption)
                    have q312 : x100_3 < (t301.length : Int) := of_decide_eq_true (by first | (with_reducible assumption) | assumption)
                    obtain ⟨ad312, e312, hx312_0, hx312_1, hx312_2⟩ := at_T25 (Kd.R_reads' HO_12.out).2.2 x100_3 p312 q312
                    cases e312
                    replace p312 := eq_true p312
                    replace q312 := eq_true q312
                    have p318 : 0 ≤ (x100_3 : Int) := of_decide_eq_true (by first | (with_reducible assumption) | assumption)
                    have q318 : x100_3 < (t306.length : Int) := of_decide_eq_true (by first | (with_reducible assumption) | assumption)
                    obtain ⟨ad318, e318, hx318_0, hx318_1, hx318_2⟩ := at_T25 (Kd.R_reads' HO_15.out).2.2 x100_3 p318 q318
                    cases e318
                    replace p318 := eq_true p318
                    replace q318 := eq_true q318
                    refine start_ (n := 43) (S := fun w' => w'.cell? (ad312.add ((x100_3).toNat * 3)) = some (.int .i64 ((rd_T25 t301 x100_3).f0)) ∧ w'.cell? ⟨(ad312.add ((x100_3).toNat * 3)).block, (ad312.add ((x100_3).toNat * 3)).off + 1, none⟩ = some (.string ((rd_T25 t301 x100_3).f1)) ∧ w'.cell? ⟨(ad312.add ((x100_3).toNat * 3)).block, (ad312.add ((x100_3).toNat * 3)).off + 2, none⟩ = some (.int .i64 ((rd_T25 t301 x100_3).f2)) ∧ w'.cell? (ad318.add ((x100_3).toNat * 3)) = some (.int .i64 ((rd_T25 t306 x100_3).f0)) ∧ w'.cell? ⟨(ad318.add ((x100_3).toNat * 3)).block, (ad318.add ((x100_3).toNat * 3)).off + 1, none⟩ = some (.string ((rd_T25 t306 x100_3).f1)) ∧ w'.cell? ⟨(ad318.add ((x100_3).toNat * 3)).block, (ad318.add ((x100_3).toNat * 3)).off + 2, none⟩ = some (.int .i64 ((rd_T25 t306 x100_3).f2))) (ds := []) #[false, false, false, false, false, false, false, false, false, false, false, false, false, false, false, false, false, false, false, false, false, false, false, false, false, false, false, false, false, false, false, false, false, false, false, false, false, false, false, false, false, false, false] (by kernel_rfl) rfl rfl ⟨hx312_0, hx312_1, hx312_2, hx318_0, hx318_1, hx318_2⟩ (fun hHeld => ?_); refine with_tabW gonglaw14_LexBlanks.tab24 gonglaw14_LexBlanks.bits24 (fun HT_ HW_ => ?_)
                    generalize wr.drew = w73 at HO_12 HO_15 HB hx312_0 hx312_1 hx312_2 hx318_0 hx318_1 hx318_2 hHeld ⊢
                    refine pure_ (i := 0) (N := some 103) (v := ?_) (a' := ?_) (bz_ 43 1) rfl rfl (any_of HT_.out (by kernel_rfl)) (fun _ _ _ h => h) (Or.inl ⟨by rfl, ?_⟩) ?_ ?_
                    rotate_left; intro w'; go_simp; with_reducible rfl; rotate_left; simp only [Act.put, s1_, s2_, s3_, i64_w, i32_w]; rfl
                    refine pure_ (i := 1) (N := some 104) (v := ?_) (a' := ?_) (bz_ 43 3) rfl rfl (any_of HT_.out (by kernel_rfl)) (fun _ _ _ h => h) (Or.inl ⟨by rfl, ?_⟩) ?_ ?_
                    rotate_left; intro w'; go_simp; with_reducible rfl; rotate_left; simp only [Act.put, s1_, s2_, s3_, i64_w, i32_w]; rfl
                    refine pure_ (i := 2) (N := some 105) (v := ?_) (a' := ?_) (bz_ 43 7) rfl rfl (any_of HT_.out (by kernel_rfl)) (fun _ _ _ h => h) (Or.inl ⟨by rfl, ?_⟩) ?_ ?_
                    rotate_left; intro w'; go_simp; with_reducible rfl; rotate_left; simp only [Act.put, s1_, s2_, s3_, i64_w, i32_w]; rfl
                    refine pure_ (i := 3) (N := some 106) (v := ?_) (a' := ?_) (bz_ 43 15) rfl rfl (any_of HT_.out (by kernel_rfl)) (fun _ _ _ h => h) (Or.inl ⟨by rfl, ?_⟩) ?_ ?_
                    rotate_left; intro w'; go_simp; with_reducible rfl; rotate_left; simp only [Act.put, s1_, s2_, s3_, i64_w, i32_w]; rfl
                    refine take_ (i := 4) (N := some 107) (v := ?_) (a' := ?_) #[true, true, true, true, true, false, false, false, false, false, false, false, false, false, false, false, false, false, false, false, false, false, false, false, false, false, false, false, false, false, false, false, false, false, false, false, false, false, false, false, false, false, false] rfl rfl (take_ofW HT_.out HW_.out (by kernel_rfl)) (fun _ _ _ h => h) (Or.inl ⟨by rfl, ?_⟩) hHeld ?_ ?_
                    rotate_left
                    ·rintro w' ⟨s0, s1, s2, s3, s4, s5⟩
                     go_simp
                     with_reducible rfl
                    rotate_left
                    ·simp only [Act.put, s1_, s2_, s3_, i64_w, i32_w]; rfl
                    refine pure_ (i := 5) (N := some 108) (v := ?_) (a' := ?_) (bz_ 43 63) rfl rfl (any_of HT_.out (by kernel_rfl)) (fun _ _ _ h => h) (Or.inl ⟨by rfl, ?_⟩) ?_ ?_
                    rotate_left; intro w'; go_simp; with_reducible rfl; rotate_left; simp only [Act.put, s1_, s2_, s3_, i64_w, i32_w]; rfl
                    refine pure_ (i := 6) (N := some 109) (v := ?_) (a' := ?_) (bz_ 43 127) rfl rfl (any_of HT_.out (by kernel_rfl)) (fun _ _ _ h => h) (Or.inl ⟨by rfl, ?_⟩) ?_ ?_
                    rotate_left; intro w'; go_simp; with_reducible rfl; rotate_left; simp only [Act.put, s1_, s2_, s3_, i64_w, i32_w]; rfl
                    refine pure_ (i := 7) (N := some 110) (v := ?_) (a' := ?_) (bz_ 43 255) rfl rfl (any_of HT_.out (by kernel_rfl)) (fun _ _ _ h => h) (Or.inl ⟨by rfl, ?_⟩) ?_ ?_
                    rotate_left; intro w'; go_simp; with_reducible rfl; rotate_left; simp only [Act.put, s1_, s2_, s3_, i64_w, i32_w]; rfl
                    refine pure_ (i := 8) (N := some 111) (v := ?_) (a' := ?_) (bz_ 43 511) rfl rfl (any_of HT_.out (by kernel_rfl)) (fun _ _ _ h => h) (Or.inl ⟨by rfl, ?_⟩) ?_ ?_
                    rotate_left; intro w'; go_simp; with_reducible rfl; rotate_left; simp only [Act.put, s1_, s2_, s3_, i64_w, i32_w]; rfl
                    refine pure_ (i := 9) (N := some 112) (v := ?_) (a' := ?_) (bz_ 43 1023) rfl rfl (any_of HT_.out (by kernel_rfl)) (fun _ _ _ h => h) (Or.inl ⟨by rfl, ?_⟩) ?_ ?_
                    rotate_left; intro w'; go_simp; with_reducible rfl; rotate_left; simp only [Act.put, s1_, s2_, s3_, i64_w, i32_w]; rfl
                    refine pure_ (i := 10) (N := some 113) (v := undef) (a' := ?_) (bz_ 43 2047) rfl rfl (any_of HT_.out (by kernel_rfl)) (fun _ _ _ h => h) (Or.inr ⟨by rfl, rfl⟩) ?_ ?_
                    rotate_left
                    ·simp only [Act.put, s1_, s2_, s3_, i64_w, i32_w]; rfl
                    refine pure_ (i := 11) (N := some 114) (v := undef) (a' := ?_) (bz_ 43 4095) rfl rfl (any_of HT_.out (by kernel_rfl)) (fun _ _ _ h => h) (Or.inr ⟨by rfl, rfl⟩) ?_ ?_
                    rotate_left
                    ·simp only [Act.put, s1_, s2_, s3_, i64_w, i32_w]; rfl
                    refine pure_ (i := 12) (N := some 115) (v := undef) (a' := ?_) (bz_ 43 8191) rfl rfl (any_of HT_.out (by kernel_rfl)) (fun _ _ _ h => h) (Or.inr ⟨by rfl, rfl⟩) ?_ ?_
                    rotate_left
                    ·simp only [Act.put, s1_, s2_, s3_, i64_w, i32_w]; rfl
                    refine pure_ (i := 13) (N := some 116) (v := undef) (a' := ?_) (bz_ 43 16383) rfl rfl (any_of HT_.out (by kernel_rfl)) (fun _ _ _ h => h) (Or.inr ⟨by rfl, rfl⟩) ?_ ?_
                    rotate_left
                    ·simp only [Act.put, s1_, s2_, s3_, i64_w, i32_w]; rfl
                    refine pure_ (i := 14) (N := some 117) (v := undef) (a' := ?_) (bz_ 43 32767) rfl rfl (any_of HT_.out (by kernel_rfl)) (fun _ _ _ h => h) (Or.inr ⟨by rfl, rfl⟩) ?_ ?_
                    rotate_left
                    ·simp only [Act.put, s1_, s2_, s3_, i64_w, i32_w]; rfl
                    refine pure_ (i := 15) (N := some 118) (v := undef) (a' := ?_) (bz_ 43 65535) rfl rfl (any_of HT_.out (by kernel_rfl)) (fun _ _ _ h => h) (Or.inr ⟨by rfl, rfl⟩) ?_ ?_
                    rotate_left
                    ·simp only [Act.put, s1_, s2_, s3_, i64_w, i32_w]; rfl
                    refine pure_ (i := 16) (N := some 119) (v := undef) (a' := ?_) (bz_ 43 131071) rfl rfl (any_of HT_.out (by kernel_rfl)) (fun _ _ _ h => h) (Or.inr ⟨by rfl, rfl⟩) ?_ ?_
                    rotate_left
                    ·simp only [Act.put, s1_, s2_, s3_, i64_w, i32_w]; rfl
                    refine pure_ (i := 17) (N := some 120) (v := undef) (a' := ?_) (bz_ 43 262143) rfl rfl (any_of HT_.out (by kernel_rfl)) (fun _ _ _ h => h) (Or.inr ⟨by rfl, rfl⟩) ?_ ?_
                    rotate_left
                    ·simp only [Act.put, s1_, s2_, s3_, i64_w, i32_w]; rfl
                    refine pure_ (i := 18) (N := some 121) (v := undef) (a' := ?_) (bz_ 43 524287) rfl rfl (any_of HT_.out (by kernel_rfl)) (fun _ _ _ h => h) (Or.inr ⟨by rfl, rfl⟩) ?_ ?_
                    rotate_left
                    ·simp only [Act.put, s1_, s2_, s3_, i64_w, i32_w]; rfl
                    refine pure_ (i := 19) (N := some 122) (v := undef) (a' := ?_) (bz_ 43 1048575) rfl rfl (any_of HT_.out (by kernel_rfl)) (fun _ _ _ h => h) (Or.inr ⟨by rfl, rfl⟩) ?_ ?_
                    rotate_left
                    ·simp only [Act.put, s1_, s2_, s3_, i64_w, i32_w]; rfl
                    refine pure_ (i := 20) (N := some 123) (v := undef) (a' := ?_) (bz_ 43 2097151) rfl rfl (any_of HT_.out (by kernel_rfl)) (fun _ _ _ h => h) (Or.inr ⟨by rfl, rfl⟩) ?_ ?_
                    rotate_left
                    ·simp only [Act.put, s1_, s2_, s3_, i64_w, i32_w]; rfl
                    refine pure_ (i := 21) (N := some 124) (v := undef) (a' := ?_) (bz_ 43 4194303) rfl rfl (any_of HT_.out (by kernel_rfl)) (fun _ _ _ h => h) (Or.inr ⟨by rfl, rfl⟩) ?_ ?_
                    rotate_left
                    ·simp only [Act.put, s1_, s2_, s3_, i64_w, i32_w]; rfl
                    refine pure_ (i := 22) (N := some 125) (v := ?_) (a' := ?_) (bz_ 43 8388607) rfl rfl (any_of HT_.out (by kernel_rfl)) (fun _ _ _ h => h) (Or.inl ⟨by rfl, ?_⟩) ?_ ?_
                    rotate_left; intro w'; go_simp; with_reducible rfl; rotate_left; simp only [Act.put, s1_, s2_, s3_, i64_w, i32_w]; rfl
                    refine pure_ (i := 23) (N := some 126) (v := ?_) (a' := ?_) (bz_ 43 16777215) rfl rfl (any_of HT_.out (by kernel_rfl)) (fun _ _ _ h => h) (Or.inl ⟨by rfl, ?_⟩) ?_ ?_
                    rotate_left; intro w'; go_simp; with_reducible rfl; rotate_left; simp only [Act.put, s1_, s2_, s3_, i64_w, i32_w]; rfl
                    refine pure_ (i := 24) (N := some 127) (v := ?_) (a' := ?_) (bz_ 43 33554431) rfl rfl (any_of HT_.out (by kernel_rfl)) (fun _ _ _ h => h) (Or.inl ⟨by rfl, ?_⟩) ?_ ?_
                    rotate_left; intro w'; go_simp; with_reducible rfl; rotate_left; simp only [Act.put, s1_, s2_, s3_, i64_w, i32_w]; rfl
                    refine pure_ (i := 25) (N := some 128) (v := ?_) (a' := ?_) (bz_ 43 67108863) rfl rfl (any_of HT_.out (by kernel_rfl)) (fun _ _ _ h => h) (Or.inl ⟨by rfl, ?_⟩) ?_ ?_
                    rotate_left; intro w'; go_simp; with_reducible rfl; rotate_left; simp only [Act.put, s1_, s2_, s3_, i64_w, i32_w]; rfl
                    refine pure_ (i := 26) (N := some 129) (v := ?_) (a' := ?_) (bz_ 43 134217727) rfl rfl (any_of HT_.out (by kernel_rfl)) (fun _ _ _ h => h) (Or.inl ⟨by rfl, ?_⟩) ?_ ?_
                    rotate_left; intro w'; go_simp; with_reducible rfl; rotate_left; simp only [Act.put, s1_, s2_, s3_, i64_w, i32_w]; rfl
                    refine pure_ (i := 27) (N := some 130) (v := ?_) (a' := ?_) (bz_ 43 268435455) rfl rfl (any_of HT_.out (by kernel_rfl)) (fun _ _ _ h => h) (Or.inl ⟨by rfl, ?_⟩) ?_ ?_
                    rotate_left; intro w'; go_simp; with_reducible rfl; rotate_left; simp only [Act.put, s1_, s2_, s3_, i64_w, i32_w]; rfl
                    refine pure_ (i := 28) (N := some 131) (v := ?_) (a' := ?_) (bz_ 43 536870911) rfl rfl (any_of HT_.out (by kernel_rfl)) (fun _ _ _ h => h) (Or.inl ⟨by rfl, ?_⟩) ?_ ?_
                    rotate_left; intro w'; go_simp; with_reducible rfl; rotate_left; simp only [Act.put, s1_, s2_, s3_, i64_w, i32_w]; rfl
                    refine take_ (i := 29) (N := some 132) (v := ?_) (a' := ?_) #[true, true, true, true, true, true, true, true, true, true, true, true, true, true, true, true, true, true, true, true, true, true, true, true, true, true, true, true, true, true, false, false, false, false, false, false, false, false, false, false, false, false, false] rfl rfl (take_ofW HT_.out HW_.out (by kernel_rfl)) (fun _ _ _ h => h) (Or.inl ⟨by rfl, ?_⟩) hHeld ?_ ?_
                    rotate_left
                    ·rintro w' ⟨s0, s1, s2, s3, s4, s5⟩
                     go_simp
                     with_reducible rfl
                    rotate_left
                    ·simp only [Act.put, s1_, s2_, s3_, i64_w, i32_w]; rfl
                    refine pure_ (i := 30) (N := some 133) (v := ?_) (a' := ?_) (bz_ 43 2147483647) rfl rfl (any_of HT_.out (by kernel_rfl)) (fun _ _ _ h => h) (Or.inl ⟨by rfl, ?_⟩) ?_ ?_
                    rotate_left; intro w'; go_simp; with_reducible rfl; rotate_left; simp only [Act.put, s1_, s2_, s3_, i64_w, i32_w]; rfl
                    refine pure_ (i := 31) (N := some 134) (v := ?_) (a' := ?_) (bz_ 43 4294967295) rfl rfl (any_of HT_.out (by kernel_rfl)) (fun _ _ _ h => h) (Or.inl ⟨by rfl, ?_⟩) ?_ ?_
                    rotate_left; intro w'; go_simp; with_reducible rfl; rotate_left; simp only [Act.put, s1_, s2_, s3_, i64_w, i32_w]; rfl
                    refine pure_ (i := 32) (N := some 135) (v := ?_) (a' := ?_) (bz_ 43 8589934591) rfl rfl (any_of HT_.out (by kernel_rfl)) (fun _ _ _ h => h) (Or.inl ⟨by rfl, ?_⟩) ?_ ?_
                    rotate_left; intro w'; go_simp; with_reducible rfl; rotate_left; simp only [Act.put, s1_, s2_, s3_, i64_w, i32_w]; rfl
                    refine pure_ (i := 33) (N := some 136) (v := undef) (a' := ?_) (bz_ 43 17179869183) rfl rfl (any_of HT_.out (by kernel_rfl)) (fun _ _ _ h => h) (Or.inr ⟨by rfl, rfl⟩) ?_ ?_
                    rotate_left
                    ·simp only [Act.put, s1_, s2_, s3_, i64_w, i32_w]; rfl
                    refine pure_ (i := 34) (N := some 137) (v := undef) (a' := ?_) (bz_ 43 34359738367) rfl rfl (any_of HT_.out (by kernel_rfl)) (fun _ _ _ h => h) (Or.inr ⟨by rfl, rfl⟩) ?_ ?_
                    rotate_left
                    ·simp only [Act.put, s1_, s2_, s3_, i64_w, i32_w]; rfl
                    refine pure_ (i := 35) (N := some 138) (v := undef) (a' := ?_) (bz_ 43 68719476735) rfl rfl (any_of HT_.out (by kernel_rfl)) (fun _ _ _ h => h) (Or.inr ⟨by rfl, rfl⟩) ?_ ?_
                    rotate_left
                    ·simp only [Act.put, s1_, s2_, s3_, i64_w, i32_w]; rfl
                    refine pure_ (i := 36) (N := some 139) (v := undef) (a' := ?_) (bz_ 43 137438953471) rfl rfl (any_of HT_.out (by kernel_rfl)) (fun _ _ _ h => h) (Or.inr ⟨by rfl, rfl⟩) ?_ ?_
                    rotate_left
                    ·simp only [Act.put, s1_, s2_, s3_, i64_w, i32_w]; rfl
                    refine pure_ (i := 37) (N := some 140) (v := undef) (a' := ?_) (bz_ 43 274877906943) rfl rfl (any_of HT_.out (by kernel_rfl)) (fun _ _ _ h => h) (Or.inr ⟨by rfl, rfl⟩) ?_ ?_
                    rotate_left
                    ·simp only [Act.put, s1_, s2_, s3_, i64_w, i32_w]; rfl
                    refine pure_ (i := 38) (N := some 141) (v := undef) (a' := ?_) (bz_ 43 549755813887) rfl rfl (any_of HT_.out (by kernel_rfl)) (fun _ _ _ h => h) (Or.inr ⟨by rfl, rfl⟩) ?_ ?_
                    rotate_left
                    ·simp only [Act.put, s1_, s2_, s3_, i64_w, i32_w]; rfl
                    refine pure_ (i := 39) (N := some 142) (v := undef) (a' := ?_) (bz_ 43 1099511627775) rfl rfl (any_of HT_.out (by kernel_rfl)) (fun _ _ _ h => h) (Or.inr ⟨by rfl, rfl⟩) ?_ ?_
                    rotate_left
                    ·simp only [Act.put, s1_, s2_, s3_, i64_w, i32_w]; rfl
                    refine pure_ (i := 40) (N := some 143) (v := undef) (a' := ?_) (bz_ 43 2199023255551) rfl rfl (any_of HT_.out (by kernel_rfl)) (fun _ _ _ h => h) (Or.inr ⟨by rfl, rfl⟩) ?_ ?_
                    rotate_left
                    ·simp only [Act.put, s1_, s2_, s3_, i64_w, i32_w]; rfl
                    refine pure_ (i := 41) (N := some 144) (v := undef) (a' := ?_) (bz_ 43 4398046511103) rfl rfl (any_of HT_.out (by kernel_rfl)) (fun _ _ _ h => h) (Or.inr ⟨by rfl, rfl⟩) ?_ ?_
                    rotate_left
                    ·simp only [Act.put, s1_, s2_, s3_, i64_w, i32_w]; rfl
                    refine pure_ (i := 42) (N := some 145) (v := ?_) (a' := ?_) (bz_ 43 8796093022207) rfl rfl (any_of HT_.out (by kernel_rfl)) (fun _ _ _ h => h) (Or.inl ⟨by rfl, ?_⟩) ?_ ?_
                    rotate_left; intro w'; go_simp; with_reducible rfl; rotate_left; simp only [Act.put, s1_, s2_, s3_, i64_w, i32_w]; rfl
                    refine done_ (done_of HT_.out (by kernel_rfl)) ?_
                    try go_wp2
                    go_meet
                    case rel => exact ⟨_, (true), (by first | rfl | (simp; done) | (simp [*]; done)), H', ⟨by have := HK1.out; have := HJ38.out; have := HK3.out; first | omega | exact Nat.le_refl _⟩, ⟨by (with_reducible repeat (first | apply Kd.R_alloc | apply Kd.R_drewN | apply Kd.R_drew)); exact HO_12.out⟩, ⟨by (with_reducible repeat (first | apply Kd.R_alloc | apply Kd.R_drewN | apply Kd.R_drew)); exact HO_15.out⟩, ⟨by repeat (first | (with_reducible first | exact HB.out | apply below_alloc | apply pw_below_drewN | apply below_drew1) | exact HB.out)⟩⟩
                   ·rw [if_neg c72] at H
                    have c72b0 : decide (((rd_T25 t306 x100_3).f2) < 3) = false := decide_eq_false c72
                    clear c72
                    replace H := Option.bind_eq_some_iff.mp H
                    obtain ⟨t320, A750, H⟩ := H
                    replace H : (gonglaw14_LexBlanks.j3 k3 l0 x7_1 t301 t306 x100_3 (t306.length : Int) x100_3 (decide (((rd_T25 t306 x100_3).f2) > (wrap64 (1 + t320))))) = some r := H
                    have A75 := Aside0.mk A750
                    clear A750
                    have H' := Aside0.mk H
                    clear H
                    try go_wp2
                    have n0_ := Aside0.mk (Kd.R_drew HO_12.out)
                    have n1_ := Aside0.mk (Kd.R_drew HO_15.out)
                    have n2_ := Aside0.mk (below_drew1 HB.out)
                    clear HO_12
                    clear HO_15
                    clear HB
                    have HO_12 := n0_
                    have HO_15 := n1_
                    have HB := n2_
                    clear n0_ n1_ n2_
                    obtain ⟨Ao77, co77, eo77⟩ := Kd.R_slice HO_12.out
                    (first | subst eo77 | (injection eo77 with f1_ f2_ f3_; have f4_ := f1_.symm; have f5_ := f3_.symm; clear f1_ f2_ f3_; subst f4_; subst f5_))
                    have p312 : 0 ≤ (x100_3 : Int) := of_decide_eq_true (by first | (with_reducible assumption) | assumption)
                    have q312 : x100_3 < (t301.length : Int) := of_decide_eq_true (by first | (with_reducible assumption) | assumption)
                    obtain ⟨ad312, e312, hx312_0, hx312_1, hx312_2⟩ := at_T25 (Kd.R_reads' HO_12.out).2.2 x100_3 p312 q312
                    cases e312
                    replace p312 := eq_true p312
                    replace q312 := eq_true q312
                    have p318 : 0 ≤ (x100_3 : Int) := of_decide_eq_true (by first | (with_reducible assumption) | assumption)
                    have q318 : x100_3 < (t306.length : Int) := of_decide_eq_true (by first | (with_reducible assumption) | assumption)
                    obtain ⟨ad318, e318, hx318_0, hx318_1, hx318_2⟩ := at_T25 (Kd.R_reads' HO_15.out).2.2 x100_3 p318 q318
                    cases e318
                    replace p318 := eq_true p318
                    replace q318 := eq_true q318
                    have p319 : 0 ≤ (x100_3 : Int) := of_decide_eq_true (by first | (with_reducible assumption) | assumption)
                    have q319 : x100_3 < (t306.length : Int) := of_decide_eq_true (by first | (with_reducible assumption) | assumption)
                    obtain ⟨ad319, e319, hx319_0, hx319_1, hx319_2⟩ := at_T25 (Kd.R_reads' HO_15.out).2.2 x100_3 p319 q319
                    obtain rfl : ad318 = ad319 := (by injection e319)
                    replace p319 := eq_true p319
                    replace q319 := eq_true q319
                    refine start_ (n := 43) (S := fun w' => w'.cell? (ad312.add ((x100_3).toNat * 3)) = some (.int .i64 ((rd_T25 t301 x100_3).f0)) ∧ w'.cell? ⟨(ad312.add ((x100_3).toNat * 3)).block, (ad312.add ((x100_3).toNat * 3)).off + 1, none⟩ = some (.string ((rd_T25 t301 x100_3).f1)) ∧ w'.cell? ⟨(ad312.add ((x100_3).toNat * 3)).block, (ad312.add ((x100_3).toNat * 3)).off + 2, none⟩ = some (.int .i64 ((rd_T25 t301 x100_3).f2)) ∧ w'.cell? (ad318.add ((x100_3).toNat * 3)) = some (.int .i64 ((rd_T25 t306 x100_3).f0)) ∧ w'.cell? ⟨(ad318.add ((x100_3).toNat * 3)).block, (ad318.add ((x100_3).toNat * 3)).off + 1, none⟩ = some (.string ((rd_T25 t306 x100_3).f1)) ∧ w'.cell? ⟨(ad318.add ((x100_3).toNat * 3)).block, (ad318.add ((x100_3).toNat * 3)).off + 2, none⟩ = some (.int .i64 ((rd_T25 t306 x100_3).f2)) ∧ w'.cell? (ad318.add ((x100_3).toNat * 3)) = some (.int .i64 ((rd_T25 t306 x100_3).f0)) ∧ w'.cell? ⟨(ad318.add ((x100_3).toNat * 3)).block, (ad318.add ((x100_3).toNat * 3)).off + 1, none⟩ = some (.string ((rd_T25 t306 x100_3).f1)) ∧ w'.cell? ⟨(ad318.add ((x100_3).toNat * 3)).block, (ad318.add ((x100_3).toNat * 3)).off + 2, none⟩ = some (.int .i64 ((rd_T25 t306 x100_3).f2))) (ds := []) #[false, false, false, false, false, false, false, false, false, false, false, false, false, false, false, false, false, false, false, false, false, false, false, false, false, false, false, false, false, false, false, false, false, false, false, false, false, false, false, false, false, false, false] (by kernel_rfl) rfl rfl ⟨hx312_0, hx312_1, hx312_2, hx318_0, hx318_1, hx318_2, hx319_0, hx319_1, hx319_2⟩ (fun hHeld => ?_); refine with_tabW gonglaw14_LexBlanks.tab24 gonglaw14_LexBlanks.bits24 (fun HT_ HW_ => ?_)
                    generalize wr.drew = w76 at HO_12 HO_15 HB hx312_0 hx312_1 hx312_2 hx318_0 hx318_1 hx318_2 hx319_0 hx319_1 hx319_2 hHeld ⊢
                    refine pure_ (i := 0) (N := some 103) (v := ?_) (a' := ?_) (bz_ 43 1) rfl rfl (any_of HT_.out (by kernel_rfl)) (fun _ _ _ h => h) (Or.inl ⟨by rfl, ?_⟩) ?_ ?_
                    rotate_left; intro w'; go_simp; with_reducible rfl; rotate_left; simp only [Act.put, s1_, s2_, s3_, i64_w, i32_w]; rfl
                    refine pure_ (i := 1) (N := some 104) (v := ?_) (a' := ?_) (bz_ 43 3) rfl rfl (any_of HT_.out (by kernel_rfl)) (fun _ _ _ h => h) (Or.inl ⟨by rfl, ?_⟩) ?_ ?_
                    rotate_left; intro w'; go_simp; with_reducible rfl; rotate_left; simp only [Act.put, s1_, s2_, s3_, i64_w, i32_w]; rfl
                    refine pure_ (i := 2) (N := some 105) (v := ?_) (a' := ?_) (bz_ 43 7) rfl rfl (any_of HT_.out (by kernel_rfl)) (fun _ _ _ h => h) (Or.inl ⟨by rfl, ?_⟩) ?_ ?_
                    rotate_left; intro w'; go_simp; with_reducible rfl; rotate_left; simp only [Act.put, s1_, s2_, s3_, i64_w, i32_w]; rfl
                    refine pure_ (i := 3) (N := some 106) (v := ?_) (a' := ?_) (bz_ 43 15) rfl rfl (any_of HT_.out (by kernel_rfl)) (fun _ _ _ h => h) (Or.inl ⟨by rfl, ?_⟩) ?_ ?_
                    rotate_left; intro w'; go_simp; with_reducible rfl; rotate_left; simp only [Act.put, s1_, s2_, s3_, i64_w, i32_w]; rfl
                    refine take_ (i := 4) (N := some 107) (v := ?_) (a' := ?_) #[true, true, true, true, true, false, false, false, false, false, false, false, false, false, false, false, false, false, false, false, false, false, false, false, false, false, false, false, false, false, false, false, false, false, false, false, false, false, false, false, false, false, false] rfl rfl (take_ofW HT_.out HW_.out (by kernel_rfl)) (fun _ _ _ h => h) (Or.inl ⟨by rfl, ?_⟩) hHeld ?_ ?_
                    rotate_left
                    ·rintro w' ⟨s0, s1, s2, s3, s4, s5, s6, s7, s8⟩
                     go_simp
                     with_reducible rfl
                    rotate_left
                    ·simp only [Act.put, s1_, s2_, s3_, i64_w, i32_w]; rfl
                    refine pure_ (i := 5) (N := some 108) (v := ?_) (a' := ?_) (bz_ 43 63) rfl rfl (any_of HT_.out (by kernel_rfl)) (fun _ _ _ h => h) (Or.inl ⟨by rfl, ?_⟩) ?_ ?_
                    rotate_left; intro w'; go_simp; with_reducible rfl; rotate_left; simp only [Act.put, s1_, s2_, s3_, i64_w, i32_w]; rfl
                    refine pure_ (i := 6) (N := some 109) (v := ?_) (a' := ?_) (bz_ 43 127) rfl rfl (any_of HT_.out (by kernel_rfl)) (fun _ _ _ h => h) (Or.inl ⟨by rfl, ?_⟩) ?_ ?_
                    rotate_left; intro w'; go_simp; with_reducible rfl; rotate_left; simp only [Act.put, s1_, s2_, s3_, i64_w, i32_w]; rfl
                    refine pure_ (i := 7) (N := some 110) (v := ?_) (a' := ?_) (bz_ 43 255) rfl rfl (any_of HT_.out (by kernel_rfl)) (fun _ _ _ h => h) (Or.inl ⟨by rfl, ?_⟩) ?_ ?_
                    rotate_left; intro w'; go_simp; with_reducible rfl; rotate_left; simp only [Act.put, s1_, s2_, s3_, i64_w, i32_w]; rfl
                    refine pure_ (i := 8) (N := some 111) (v := ?_) (a' := ?_) (bz_ 43 511) rfl rfl (any_of HT_.out (by kernel_rfl)) (fun _ _ _ h => h) (Or.inl ⟨by rfl, ?_⟩) ?_ ?_
                    rotate_left; intro w'; go_simp; with_reducible rfl; rotate_left; simp only [Act.put, s1_, s2_, s3_, i64_w, i32_w]; rfl
                    refine pure_ (i := 9) (N := some 112) (v := ?_) (a' := ?_) (bz_ 43 1023) rfl rfl (any_of HT_.out (by kernel_rfl)) (fun _ _ _ h => h) (Or.inl ⟨by rfl, ?_⟩) ?_ ?_
                    rotate_left; intro w'; go_simp; with_reducible rfl; rotate_left; simp only [Act.put, s1_, s2_, s3_, i64_w, i32_w]; rfl
                    refine pure_ (i := 10) (N := some 113) (v := undef) (a' := ?_) (bz_ 43 2047) rfl rfl (any_of HT_.out (by kernel_rfl)) (fun _ _ _ h => h) (Or.inr ⟨by rfl, rfl⟩) ?_ ?_
                    rotate_left
                    ·simp only [Act.put, s1_, s2_, s3_, i64_w, i32_w]; rfl
                    refine pure_ (i := 11) (N := some 114) (v := undef) (a' := ?_) (bz_ 43 4095) rfl rfl (any_of HT_.out (by kernel_rfl)) (fun _ _ _ h => h) (Or.inr ⟨by rfl, rfl⟩) ?_ ?_
                    rotate_left
                    ·simp only [Act.put, s1_, s2_, s3_, i64_w, i32_w]; rfl
                    refine pure_ (i := 12) (N := some 115) (v := undef) (a' := ?_) (bz_ 43 8191) rfl rfl (any_of HT_.out (by kernel_rfl)) (fun _ _ _ h => h) (Or.inr ⟨by rfl, rfl⟩) ?_ ?_
                    rotate_left
                    ·simp only [Act.put, s1_, s2_, s3_, i64_w, i32_w]; rfl
                    refine pure_ (i := 13) (N := some 116) (v := undef) (a' := ?_) (bz_ 43 16383) rfl rfl (any_of HT_.out (by kernel_rfl)) (fun _ _ _ h => h) (Or.inr ⟨by rfl, rfl⟩) ?_ ?_
                    rotate_left
                    ·simp only [Act.put, s1_, s2_, s3_, i64_w, i32_w]; rfl
                    refine pure_ (i := 14) (N := some 117) (v := undef) (a' := ?_) (bz_ 43 32767) rfl rfl (any_of HT_.out (by kernel_rfl)) (fun _ _ _ h => h) (Or.inr ⟨by rfl, rfl⟩) ?_ ?_
                    rotate_left
                    ·simp only [Act.put, s1_, s2_, s3_, i64_w, i32_w]; rfl
                    refine pure_ (i := 15) (N := some 118) (v := undef) (a' := ?_) (bz_ 43 65535) rfl rfl (any_of HT_.out (by kernel_rfl)) (fun _ _ _ h => h) (Or.inr ⟨by rfl, rfl⟩) ?_ ?_
                    rotate_left
                    ·simp only [Act.put, s1_, s2_, s3_, i64_w, i32_w]; rfl
                    refine pure_ (i := 16) (N := some 119) (v := undef) (a' := ?_) (bz_ 43 131071) rfl rfl (any_of HT_.out (by kernel_rfl)) (fun _ _ _ h => h) (Or.inr ⟨by rfl, rfl⟩) ?_ ?_
                    rotate_left
                    ·simp only [Act.put, s1_, s2_, s3_, i64_w, i32_w]; rfl
                    refine pure_ (i := 17) (N := some 120) (v := undef) (a' := ?_) (bz_ 43 262143) rfl rfl (any_of HT_.out (by kernel_rfl)) (fun _ _ _ h => h) (Or.inr ⟨by rfl, rfl⟩) ?_ ?_
                    rotate_left
                    ·simp only [Act.put, s1_, s2_, s3_, i64_w, i32_w]; rfl
                    refine pure_ (i := 18) (N := some 121) (v := undef) (a' := ?_) (bz_ 43 524287) rfl rfl (any_of HT_.out (by kernel_rfl)) (fun _ _ _ h => h) (Or.inr ⟨by rfl, rfl⟩) ?_ ?_
                    rotate_left
                    ·simp only [Act.put, s1_, s2_, s3_, i64_w, i32_w]; rfl
                    refine pure_ (i := 19) (N := some 122) (v := undef) (a' := ?_) (bz_ 43 1048575) rfl rfl (any_of HT_.out (by kernel_rfl)) (fun _ _ _ h => h) (Or.inr ⟨by rfl, rfl⟩) ?_ ?_
                    rotate_left
                    ·simp only [Act.put, s1_, s2_, s3_, i64_w, i32_w]; rfl
                    refine pure_ (i := 20) (N := some 123) (v := undef) (a' := ?_) (bz_ 43 2097151) rfl rfl (any_of HT_.out (by kernel_rfl)) (fun _ _ _ h => h) (Or.inr ⟨by rfl, rfl⟩) ?_ ?_
                    rotate_left
                    ·simp only [Act.put, s1_, s2_, s3_, i64_w, i32_w]; rfl
                    refine pure_ (i := 21) (N := some 124) (v := undef) (a' := ?_) (bz_ 43 4194303) rfl rfl (any_of HT_.out (by kernel_rfl)) (fun _ _ _ h => h) (Or.inr ⟨by rfl, rfl⟩) ?_ ?_
                    rotate_left
                    ·simp only [Act.put, s1_, s2_, s3_, i64_w, i32_w]; rfl
                    refine pure_ (i := 22) (N := some 125) (v := ?_) (a' := ?_) (bz_ 43 8388607) rfl rfl (any_of HT_.out (by kernel_rfl)) (fun _ _ _ h => h) (Or.inl ⟨by rfl, ?_⟩) ?_ ?_
                    rotate_left; intro w'; go_simp; with_reducible rfl; rotate_left; simp only [Act.put, s1_, s2_, s3_, i64_w, i32_w]; rfl
                    refine pure_ (i := 23) (N := some 126) (v := ?_) (a' := ?_) (bz_ 43 16777215) rfl rfl (any_of HT_.out (by kernel_rfl)) (fun _ _ _ h => h) (Or.inl ⟨by rfl, ?_⟩) ?_ ?_
                    rotate_left; intro w'; go_simp; with_reducible rfl; rotate_left; simp only [Act.put, s1_, s2_, s3_, i64_w, i32_w]; rfl
                    refine pure_ (i := 24) (N := some 127) (v := ?_) (a' := ?_) (bz_ 43 33554431) rfl rfl (any_of HT_.out (by kernel_rfl)) (fun _ _ _ h => h) (Or.inl ⟨by rfl, ?_⟩) ?_ ?_
                    rotate_left; intro w'; go_simp; with_reducible rfl; rotate_left; simp only [Act.put, s1_, s2_, s3_, i64_w, i32_w]; rfl
                    refine pure_ (i := 25) (N := some 128) (v := ?_) (a' := ?_) (bz_ 43 67108863) rfl rfl (any_of HT_.out (by kernel_rfl)) (fun _ _ _ h => h) (Or.inl ⟨by rfl, ?_⟩) ?_ ?_
                    rotate_left; intro w'; go_simp; with_reducible rfl; rotate_left; simp only [Act.put, s1_, s2_, s3_, i64_w, i32_w]; rfl
                    refine pure_ (i := 26) (N := some 129) (v := ?_) (a' := ?_) (bz_ 43 134217727) rfl rfl (any_of HT_.out (by kernel_rfl)) (fun _ _ _ h => h) (Or.inl ⟨by rfl, ?_⟩) ?_ ?_
                    rotate_left; intro w'; go_simp; with_reducible rfl; rotate_left; simp only [Act.put, s1_, s2_, s3_, i64_w, i32_w]; rfl
                    refine pure_ (i := 27) (N := some 130) (v := ?_) (a' := ?_) (bz_ 43 268435455) rfl rfl (any_of HT_.out (by kernel_rfl)) (fun _ _ _ h => h) (Or.inl ⟨by rfl, ?_⟩) ?_ ?_
                    rotate_left; intro w'; go_simp; with_reducible rfl; rotate_left; simp only [Act.put, s1_, s2_, s3_, i64_w, i32_w]; rfl
                    refine pure_ (i := 28) (N := some 131) (v := ?_) (a' := ?_) (bz_ 43 536870911) rfl rfl (any_of HT_.out (by kernel_rfl)) (fun _ _ _ h => h) (Or.inl ⟨by rfl, ?_⟩) ?_ ?_
                    rotate_left; intro w'; go_simp; with_reducible rfl; rotate_left; simp only [Act.put, s1_, s2_, s3_, i64_w, i32_w]; rfl
                    refine take_ (i := 29) (N := some 132) (v := ?_) (a' := ?_) #[true, true, true, true, true, true, true, true, true, true, true, true, true, true, true, true, true, true, true, true, true, true, true, true, true, true, true, true, true, true, false, false, false, false, false, false, false, false, false, false, false, false, false] rfl rfl (take_ofW HT_.out HW_.out (by kernel_rfl)) (fun _ _ _ h => h) (Or.inl ⟨by rfl, ?_⟩) hHeld ?_ ?_
                    rotate_left
                    ·rintro w' ⟨s0, s1, s2, s3, s4, s5, s6, s7, s8⟩
                     go_simp
                     with_reducible rfl
                    rotate_left
                    ·simp only [Act.put, s1_, s2_, s3_, i64_w, i32_w]; rfl
                    refine pure_ (i := 30) (N := some 133) (v := ?_) (a' := ?_) (bz_ 43 2147483647) rfl rfl (any_of HT_.out (by kernel_rfl)) (fun _ _ _ h => h) (Or.inl ⟨by rfl, ?_⟩) ?_ ?_
                    rotate_left; intro w'; go_simp; with_reducible rfl; rotate_left; simp only [Act.put, s1_, s2_, s3_, i64_w, i32_w]; rfl
                    refine pure_ (i := 31) (N := some 134) (v := ?_) (a' := ?_) (bz_ 43 4294967295) rfl rfl (any_of HT_.out (by kernel_rfl)) (fun _ _ _ h => h) (Or.inl ⟨by rfl, ?_⟩) ?_ ?_
                    rotate_left; intro w'; go_simp; with_reducible rfl; rotate_left; simp only [Act.put, s1_, s2_, s3_, i64_w, i32_w]; rfl
                    refine pure_ (i := 32) (N := some 135) (v := ?_) (a' := ?_) (bz_ 43 8589934591) rfl rfl (any_of HT_.out (by kernel_rfl)) (fun _ _ _ h => h) (Or.inl ⟨by rfl, ?_⟩) ?_ ?_
                    rotate_left; intro w'; go_simp; with_reducible rfl; rotate_left; simp only [Act.put, s1_, s2_, s3_, i64_w, i32_w]; rfl
                    refine pure_ (i := 33) (N := some 136) (v := ?_) (a' := ?_) (bz_ 43 17179869183) rfl rfl (any_of HT_.out (by kernel_rfl)) (fun _ _ _ h => h) (Or.inl ⟨by rfl, ?_⟩) ?_ ?_
                    rotate_left; intro w'; go_simp; with_reducible rfl; rotate_left; simp only [Act.put, s1_, s2_, s3_, i64_w, i32_w]; rfl
                    refine pure_ (i := 34) (N := some 137) (v := ?_) (a' := ?_) (bz_ 43 34359738367) rfl rfl (any_of HT_.out (by kernel_rfl)) (fun _ _ _ h => h) (Or.inl ⟨by rfl, ?_⟩) ?_ ?_
                    rotate_left; intro w'; go_simp; with_reducible rfl; rotate_left; simp only [Act.put, s1_, s2_, s3_, i64_w, i32_w]; rfl
                    refine pure_ (i := 35) (N := some 138) (v := ?_) (a' := ?_) (bz_ 43 68719476735) rfl rfl (any_of HT_.out (by kernel_rfl)) (fun _ _ _ h => h) (Or.inl ⟨by rfl, ?_⟩) ?_ ?_
                    rotate_left; intro w'; go_simp; with_reducible rfl; rotate_left; simp only [Act.put, s1_, s2_, s3_, i64_w, i32_w]; rfl
                    refine pure_ (i := 36) (N := some 139) (v := ?_) (a' := ?_) (bz_ 43 137438953471) rfl rfl (any_of HT_.out (by kernel_rfl)) (fun _ _ _ h => h) (Or.inl ⟨by rfl, ?_⟩) ?_ ?_
                    rotate_left; intro w'; go_simp; with_reducible rfl; rotate_left; simp only [Act.put, s1_, s2_, s3_, i64_w, i32_w]; rfl
                    refine pure_ (i := 38) (N := some 141) (v := ?_) (a' := ?_) (bz_ 43 412316860415) rfl rfl (any_of HT_.out (by kernel_rfl)) (fun _ _ _ h => h) (Or.inl ⟨by rfl, ?_⟩) ?_ ?_
                    rotate_left; intro w'; go_simp; with_reducible rfl; rotate_left; simp only [Act.put, s1_, s2_, s3_, i64_w, i32_w]; rfl
                    refine take_ (i := 37) (N := some 140) (v := ?_) (a' := ?_) #[true, true, true, true, true, true, true, true, true, true, true, true, true, true, true, true, true, true, true, true, true, true, true, true, true, true, true, true, true, true, true, true, true, true, true, true, true, true, true, false, false, false, false] rfl rfl (take_ofW HT_.out HW_.out (by kernel_rfl)) (fun _ _ _ h => h) (Or.inl ⟨by rfl, ?_⟩) hHeld ?_ ?_
                    rotate_left
                    ·rintro w' ⟨s0, s1, s2, s3, s4, s5, s6, s7, s8⟩
                     go_simp
                     with_reducible rfl
                    rotate_left
                    ·simp only [Act.put, s1_, s2_, s3_, i64_w, i32_w]; rfl
                    refine one_ (i := 39) (N := some 142) #[true, true, true, true, true, true, true, true, true, true, true, true, true, true, true, true, true, true, true, true, true, true, true, true, true, true, true, true, true, true, true, true, true, true, true, true, true, true, true, true, false, false, false] rfl rfl (one_of HT_.out (by kernel_rfl)) (by decide) (fun K hK => ?_)
                    refine goes_ Tryd.func16 (by kernel_rfl) rfl #[.string x7_1, .string (⟨#[10]⟩ : ByteArray)] (by rfl) rfl rfl (by (try simp only [List.map_toArray, List.map_cons, List.map_nil]); first | done | rfl | (simp only [List.length_drop, List.length_take]; rfl)) ?_
                    with_reducible refine (strings_Count.calls x7_1 (⟨#[10]⟩ : ByteArray) t320 _ A75.out).mono ?_
                    rintro e w' ⟨rfl, ⟨nd, rfl⟩⟩
                    refine ⟨_, rfl, ?_⟩
                    refine hK.out _ _ ⟨hHeld.1, hHeld.2.1, hHeld.2.2.1, hHeld.2.2.2.1, hHeld.2.2.2.2.1, hHeld.2.2.2.2.2.1, hHeld.2.2.2.2.2.2.1, hHeld.2.2.2.2.2.2.2.1, hHeld.2.2.2.2.2.2.2.2⟩ (fun hHeld => ?_)
                    clear hK K
                    refine norm_ (a' := ?_) ?_ ?_
                    rotate_left
                    ·show Act.put _ (some 142) _ = _
                     simp only [Act.put, s1_, s2_, s3_, i64_w, i32_w]
                     rfl
                    refine pure_ (i := 40) (N := some 143) (v := ?_) (a' := ?_) (bz_ 43 2199023255551) rfl rfl (any_of HT_.out (by kernel_rfl)) (fun _ _ _ h => h) (Or.inl ⟨by rfl, ?_⟩) ?_ ?_
                    rotate_left; intro w'; go_simp; with_reducible rfl; rotate_left; simp only [Act.put, s1_, s2_, s3_, i64_w, i32_w]; rfl
                    refine pure_ (i := 41) (N := some 144) (v := ?_) (a' := ?_) (bz_ 43 4398046511103) rfl rfl (any_of HT_.out (by kernel_rfl)) (fun _ _ _ h => h) (Or.inl ⟨by rfl, ?_⟩) ?_ ?_
                    rotate_left; intro w'; go_simp; with_reducible rfl; rotate_left; simp only [Act.put, s1_, s2_, s3_, i64_w, i32_w]; rfl
                    refine pure_ (i := 42) (N := some 145) (v := ?_) (a' := ?_) (bz_ 43 8796093022207) rfl rfl (any_of HT_.out (by kernel_rfl)) (fun _ _ _ h => h) (Or.inl ⟨by rfl, ?_⟩) ?_ ?_
                    rotate_left; intro w'; go_simp; with_reducible rfl; rotate_left; simp only [Act.put, s1_, s2_, s3_, i64_w, i32_w]; rfl
                    refine done_ (done_of HT_.out (by kernel_rfl)) ?_
                    try go_wp2
                    go_meet
                    case rel => exact ⟨_, (decide (((rd_T25 t306 x100_3).f2) > (wrap64 (1 + t320)))), (by first | rfl | (simp; done) | (simp [*]; done)), H', ⟨by have := HK1.out; have := HJ38.out; have := HK3.out; first | omega | exact Nat.le_refl _⟩, ⟨by (with_reducible repeat (first | apply Kd.R_alloc | apply Kd.R_drewN | apply Kd.R_drew)); exact HO_12.out⟩, ⟨by (with_reducible repeat (first | apply Kd.R_alloc | apply Kd.R_drewN | apply Kd.R_drew)); exact HO_15.out⟩, ⟨by repeat (first | (with_reducible first | exact HB.out | apply below_alloc | apply pw_below_drewN | apply below_drew1) | exact HB.out)⟩⟩
                  ·rw [if_neg c71] at H
                   exact absurd H (by simp)
                ·rw [if_neg c56] at H
                 have c56b0 : (((rd_T25 t301 x100_3).f2) == 1) = false := beq_eq_false_iff_ne.mpr c56
                 have c56b1 : (((rd_T25 t301 x100_3).f2) != 1) = true := bne_iff_ne.mpr c56
                 have H' := Aside0.mk H
                 clear H
                 try go_wp2
                 have n0_ := Aside0.mk (Kd.R_drew HO_12.out)
                 have n1_ := Aside0.mk (Kd.R_drew HO_15.out)
                 have n2_ := Aside0.mk (below_drew1 HB.out)
                 clear HO_12
                 clear HO_15
                 clear HB
                 have HO_12 := n0_
                 have HO_15 := n1_
                 have HB := n2_
                 clear n0_ n1_ n2_
                 obtain ⟨Ao79, co79, eo79⟩ := Kd.R_slice HO_12.out
                 (first | subst eo79 | (injection eo79 with f1_ f2_ f3_; have f4_ := f1_.symm; have f5_ := f3_.symm; clear f1_ f2_ f3_; subst f4_; subst f5_))
                 have p312 : 0 ≤ (x100_3 : Int) := of_decide_eq_true (by first | (with_reducible assumption) | assumption)
                 have q312 : x100_3 < (t301.length : Int) := of_decide_eq_true (by first | (with_reducible assumption) | assumption)
                 obtain ⟨ad312, e312, hx312_0, hx312_1, hx312_2⟩ := at_T25 (Kd.R_reads' HO_12.out).2.2 x100_3 p312 q312
                 cases e312
                 replace p312 := eq_true p312
                 replace q312 := eq_true q312
                 refine start_ (n := 43) (S := fun w' => w'.cell? (ad312.add ((x100_3).toNat * 3)) = some (.int .i64 ((rd_T25 t301 x100_3).f0)) ∧ w'.cell? ⟨(ad312.add ((x100_3).toNat * 3)).block, (ad312.add ((x100_3).toNat * 3)).off + 1, none⟩ = some (.string ((rd_T25 t301 x100_3).f1)) ∧ w'.cell? ⟨(ad312.add ((x100_3).toNat * 3)).block, (ad312.add ((x100_3).toNat * 3)).off + 2, none⟩ = some (.int .i64 ((rd_T25 t301 x100_3).f2))) (ds := []) #[false, false, false, false, false, false, false, false, false, false, false, false, false, false, false, false, false, false, false, false, false, false, false, false, false, false, false, false, false, false, false, false, false, false, false, false, false, false, false, false, false, false, false] (by kernel_rfl) rfl rfl ⟨hx312_0, hx312_1, hx312_2⟩ (fun hHeld => ?_); refine with_tabW gonglaw14_LexBlanks.tab24 gonglaw14_LexBlanks.bits24 (fun HT_ HW_ => ?_)
                 generalize wr.drew = w78 at HO_12 HO_15 HB hx312_0 hx312_1 hx312_2 hHeld ⊢
                 refine pure_ (i := 0) (N := some 103) (v := ?_) (a' := ?_) (bz_ 43 1) rfl rfl (any_of HT_.out (by kernel_rfl)) (fun _ _ _ h => h) (Or.inl ⟨by rfl, ?_⟩) ?_ ?_
                 rotate_left; intro w'; go_simp; with_reducible rfl; rotate_left; simp only [Act.put, s1_, s2_, s3_, i64_w, i32_w]; rfl
                 refine pure_ (i := 1) (N := some 104) (v := ?_) (a' := ?_) (bz_ 43 3) rfl rfl (any_of HT_.out (by kernel_rfl)) (fun _ _ _ h => h) (Or.inl ⟨by rfl, ?_⟩) ?_ ?_
                 rotate_left; intro w'; go_simp; with_reducible rfl; rotate_left; simp only [Act.put, s1_, s2_, s3_, i64_w, i32_w]; rfl
                 refine pure_ (i := 2) (N := some 105) (v := ?_) (a' := ?_) (bz_ 43 7) rfl rfl (any_of HT_.out (by kernel_rfl)) (fun _ _ _ h => h) (Or.inl ⟨by rfl, ?_⟩) ?_ ?_
                 rotate_left; intro w'; go_simp; with_reducible rfl; rotate_left; simp only [Act.put, s1_, s2_, s3_, i64_w, i32_w]; rfl
                 refine pure_ (i := 3) (N := some 106) (v := ?_) (a' := ?_) (bz_ 43 15) rfl rfl (any_of HT_.out (by kernel_rfl)) (fun _ _ _ h => h) (Or.inl ⟨by rfl, ?_⟩) ?_ ?_
                 rotate_left; intro w'; go_simp; with_reducible rfl; rotate_left; simp only [Act.put, s1_, s2_, s3_, i64_w, i32_w]; rfl
                 refine take_ (i := 4) (N := some 107) (v := ?_) (a' := ?_) #[true, true, true, true, true, false, false, false, false, false, false, false, false, false, false, false, false, false, false, false, false, false, false, false, false, false, false, false, false, false, false, false, false, false, false, false, false, false, false, false, false, false, false] rfl rfl (take_ofW HT_.out HW_.out (by kernel_rfl)) (fun _ _ _ h => h) (Or.inl ⟨by rfl, ?_⟩) hHeld ?_ ?_
                 rotate_left
                 ·rintro w' ⟨s0, s1, s2⟩
                  go_simp
                  with_reducible rfl
                 rotate_left
                 ·simp only [Act.put, s1_, s2_, s3_, i64_w, i32_w]; rfl
                 refine pure_ (i := 5) (N := some 108) (v := ?_) (a' := ?_) (bz_ 43 63) rfl rfl (any_of HT_.out (by kernel_rfl)) (fun _ _ _ h => h) (Or.inl ⟨by rfl, ?_⟩) ?_ ?_
                 rotate_left; intro w'; go_simp; with_reducible rfl; rotate_left; simp only [Act.put, s1_, s2_, s3_, i64_w, i32_w]; rfl
                 refine pure_ (i := 6) (N := some 109) (v := ?_) (a' := ?_) (bz_ 43 127) rfl rfl (any_of HT_.out (by kernel_rfl)) (fun _ _ _ h => h) (Or.inl ⟨by rfl, ?_⟩) ?_ ?_
                 rotate_left; intro w'; go_simp; with_reducible rfl; rotate_left; simp only [Act.put, s1_, s2_, s3_, i64_w, i32_w]; rfl
                 refine pure_ (i := 7) (N := some 110) (v := undef) (a' := ?_) (bz_ 43 255) rfl rfl (any_of HT_.out (by kernel_rfl)) (fun _ _ _ h => h) (Or.inr ⟨by rfl, rfl⟩) ?_ ?_
                 rotate_left
                 ·simp only [Act.put, s1_, s2_, s3_, i64_w, i32_w]; rfl
                 refine pure_ (i := 8) (N := some 111) (v := undef) (a' := ?_) (bz_ 43 511) rfl rfl (any_of HT_.out (by kernel_rfl)) (fun _ _ _ h => h) (Or.inr ⟨by rfl, rfl⟩) ?_ ?_
                 rotate_left
                 ·simp only [Act.put, s1_, s2_, s3_, i64_w, i32_w]; rfl
                 refine pure_ (i := 9) (N := some 112) (v := undef) (a' := ?_) (bz_ 43 1023) rfl rfl (any_of HT_.out (by kernel_rfl)) (fun _ _ _ h => h) (Or.inr ⟨by rfl, rfl⟩) ?_ ?_
                 rotate_left
                 ·simp only [Act.put, s1_, s2_, s3_, i64_w, i32_w]; rfl
                 refine pure_ (i := 10) (N := some 113) (v := undef) (a' := ?_) (bz_ 43 2047) rfl rfl (any_of HT_.out (by kernel_rfl)) (fun _ _ _ h => h) (Or.inr ⟨by rfl, rfl⟩) ?_ ?_
                 rotate_left
                 ·simp only [Act.put, s1_, s2_, s3_, i64_w, i32_w]; rfl
                 refine pure_ (i := 11) (N := some 114) (v := undef) (a' := ?_) (bz_ 43 4095) rfl rfl (any_of HT_.out (by kernel_rfl)) (fun _ _ _ h => h) (Or.inr ⟨by rfl, rfl⟩) ?_ ?_
                 rotate_left
                 ·simp only [Act.put, s1_, s2_, s3_, i64_w, i32_w]; rfl
                 refine pure_ (i := 12) (N := some 115) (v := undef) (a' := ?_) (bz_ 43 8191) rfl rfl (any_of HT_.out (by kernel_rfl)) (fun _ _ _ h => h) (Or.inr ⟨by rfl, rfl⟩) ?_ ?_
                 rotate_left
                 ·simp only [Act.put, s1_, s2_, s3_, i64_w, i32_w]; rfl
                 refine pure_ (i := 13) (N := some 116) (v := undef) (a' := ?_) (bz_ 43 16383) rfl rfl (any_of HT_.out (by kernel_rfl)) (fun _ _ _ h => h) (Or.inr ⟨by rfl, rfl⟩) ?_ ?_
                 rotate_left
                 ·simp only [Act.put, s1_, s2_, s3_, i64_w, i32_w]; rfl
                 refine pure_ (i := 14) (N := some 117) (v := undef) (a' := ?_) (bz_ 43 32767) rfl rfl (any_of HT_.out (by kernel_rfl)) (fun _ _ _ h => h) (Or.inr ⟨by rfl, rfl⟩) ?_ ?_
                 rotate_left
                 ·simp only [Act.put, s1_, s2_, s3_, i64_w, i32_w]; rfl
                 refine pure_ (i := 15) (N := some 118) (v := undef) (a' := ?_) (bz_ 43 65535) rfl rfl (any_of HT_.out (by kernel_rfl)) (fun _ _ _ h => h) (Or.inr ⟨by rfl, rfl⟩) ?_ ?_
                 rotate_left
                 ·simp only [Act.put, s1_, s2_, s3_, i64_w, i32_w]; rfl
                 refine pure_ (i := 16) (N := some 119) (v := undef) (a' := ?_) (bz_ 43 131071) rfl rfl (any_of HT_.out (by kernel_rfl)) (fun _ _ _ h => h) (Or.inr ⟨by rfl, rfl⟩) ?_ ?_
                 rotate_left
                 ·simp only [Act.put, s1_, s2_, s3_, i64_w, i32_w]; rfl
                 refine pure_ (i := 17) (N := some 120) (v := undef) (a' := ?_) (bz_ 43 262143) rfl rfl (any_of HT_.out (by kernel_rfl)) (fun _ _ _ h => h) (Or.inr ⟨by rfl, rfl⟩) ?_ ?_
                 rotate_left
                 ·simp only [Act.put, s1_, s2_, s3_, i64_w, i32_w]; rfl
                 refine pure_ (i := 18) (N := some 121) (v := undef) (a' := ?_) (bz_ 43 524287) rfl rfl (any_of HT_.out (by kernel_rfl)) (fun _ _ _ h => h) (Or.inr ⟨by rfl, rfl⟩) ?_ ?_
                 rotate_left
                 ·simp only [Act.put, s1_, s2_, s3_, i64_w, i32_w]; rfl
                 refine pure_ (i := 19) (N := some 122) (v := undef) (a' := ?_) (bz_ 43 1048575) rfl rfl (any_of HT_.out (by kernel_rfl)) (fun _ _ _ h => h) (Or.inr ⟨by rfl, rfl⟩) ?_ ?_
                 rotate_left
                 ·simp only [Act.put, s1_, s2_, s3_, i64_w, i32_w]; rfl
                 refine pure_ (i := 20) (N := some 123) (v := undef) (a' := ?_) (bz_ 43 2097151) rfl rfl (any_of HT_.out (by kernel_rfl)) (fun _ _ _ h => h) (Or.inr ⟨by rfl, rfl⟩) ?_ ?_
                 rotate_left
                 ·simp only [Act.put, s1_, s2_, s3_, i64_w, i32_w]; rfl
                 refine pure_ (i := 21) (N := some 124) (v := undef) (a' := ?_) (bz_ 43 4194303) rfl rfl (any_of HT_.out (by kernel_rfl)) (fun _ _ _ h => h) (Or.inr ⟨by rfl, rfl⟩) ?_ ?_
                 rotate_left
                 ·simp only [Act.put, s1_, s2_, s3_, i64_w, i32_w]; rfl
                 refine pure_ (i := 22) (N := some 125) (v := undef) (a' := ?_) (bz_ 43 8388607) rfl rfl (any_of HT_.out (by kernel_rfl)) (fun _ _ _ h => h) (Or.inr ⟨by rfl, rfl⟩) ?_ ?_
                 rotate_left
                 ·simp only [Act.put, s1_, s2_, s3_, i64_w, i32_w]; rfl
                 refine pure_ (i := 23) (N := some 126) (v := ?_) (a' := ?_) (bz_ 43 16777215) rfl rfl (any_of HT_.out (by kernel_rfl)) (fun _ _ _ h => h) (Or.inl ⟨by rfl, ?_⟩) ?_ ?_
                 rotate_left; intro w'; go_simp; with_reducible rfl; rotate_left; simp only [Act.put, s1_, s2_, s3_, i64_w, i32_w]; rfl
                 refine pure_ (i := 24) (N := some 127) (v := ?_) (a' := ?_) (bz_ 43 33554431) rfl rfl (any_of HT_.out (by kernel_rfl)) (fun _ _ _ h => h) (Or.inl ⟨by rfl, ?_⟩) ?_ ?_
                 rotate_left; intro w'; go_simp; with_reducible rfl; rotate_left; simp only [Act.put, s1_, s2_, s3_, i64_w, i32_w]; rfl
                 refine pure_ (i := 25) (N := some 128) (v := undef) (a' := ?_) (bz_ 43 67108863) rfl rfl (any_of HT_.out (by kernel_rfl)) (fun _ _ _ h => h) (Or.inr ⟨by rfl, rfl⟩) ?_ ?_
                 rotate_left
                 ·simp only [Act.put, s1_, s2_, s3_, i64_w, i32_w]; rfl
                 refine pure_ (i := 26) (N := some 129) (v := undef) (a' := ?_) (bz_ 43 134217727) rfl rfl (any_of HT_.out (by kernel_rfl)) (fun _ _ _ h => h) (Or.inr ⟨by rfl, rfl⟩) ?_ ?_
                 rotate_left
                 ·simp only [Act.put, s1_, s2_, s3_, i64_w, i32_w]; rfl
                 refine pure_ (i := 27) (N := some 130) (v := undef) (a' := ?_) (bz_ 43 268435455) rfl rfl (any_of HT_.out (by kernel_rfl)) (fun _ _ _ h => h) (Or.inr ⟨by rfl, rfl⟩) ?_ ?_
                 rotate_left
                 ·simp only [Act.put, s1_, s2_, s3_, i64_w, i32_w]; rfl
                 refine pure_ (i := 28) (N := some 131) (v := undef) (a' := ?_) (bz_ 43 536870911) rfl rfl (any_of HT_.out (by kernel_rfl)) (fun _ _ _ h => h) (Or.inr ⟨by rfl, rfl⟩) ?_ ?_
                 rotate_left
                 ·simp only [Act.put, s1_, s2_, s3_, i64_w, i32_w]; rfl
                 refine pure_ (i := 29) (N := some 132) (v := undef) (a' := ?_) (bz_ 43 1073741823) rfl rfl (any_of HT_.out (by kernel_rfl)) (fun _ _ _ h => h) (Or.inr ⟨by rfl, rfl⟩) ?_ ?_
                 rotate_left
                 ·simp only [Act.put, s1_, s2_, s3_, i64_w, i32_w]; rfl
                 refine pure_ (i := 30) (N := some 133) (v := undef) (a' := ?_) (bz_ 43 2147483647) rfl rfl (any_of HT_.out (by kernel_rfl)) (fun _ _ _ h => h) (Or.inr ⟨by rfl, rfl⟩) ?_ ?_
                 rotate_left
                 ·simp only [Act.put, s1_, s2_, s3_, i64_w, i32_w]; rfl
                 refine pure_ (i := 31) (N := some 134) (v := ?_) (a' := ?_) (bz_ 43 4294967295) rfl rfl (any_of HT_.out (by kernel_rfl)) (fun _ _ _ h => h) (Or.inl ⟨by rfl, ?_⟩) ?_ ?_
                 rotate_left; intro w'; go_simp; with_reducible rfl; rotate_left; simp only [Act.put, s1_, s2_, s3_, i64_w, i32_w]; rfl
                 refine pure_ (i := 32) (N := some 135) (v := ?_) (a' := ?_) (bz_ 43 8589934591) rfl rfl (any_of HT_.out (by kernel_rfl)) (fun _ _ _ h => h) (Or.inl ⟨by rfl, ?_⟩) ?_ ?_
                 rotate_left; intro w'; go_simp; with_reducible rfl; rotate_left; simp only [Act.put, s1_, s2_, s3_, i64_w, i32_w]; rfl
                 refine pure_ (i := 33) (N := some 136) (v := undef) (a' := ?_) (bz_ 43 17179869183) rfl rfl (any_of HT_.out (by kernel_rfl)) (fun _ _ _ h => h) (Or.inr ⟨by rfl, rfl⟩) ?_ ?_
                 rotate_left
                 ·simp only [Act.put, s1_, s2_, s3_, i64_w, i32_w]; rfl
                 refine pure_ (i := 34) (N := some 137) (v := undef) (a' := ?_) (bz_ 43 34359738367) rfl rfl (any_of HT_.out (by kernel_rfl)) (fun _ _ _ h => h) (Or.inr ⟨by rfl, rfl⟩) ?_ ?_
                 rotate_left
                 ·simp only [Act.put, s1_, s2_, s3_, i64_w, i32_w]; rfl
                 refine pure_ (i := 35) (N := some 138) (v := undef) (a' := ?_) (bz_ 43 68719476735) rfl rfl (any_of HT_.out (by kernel_rfl)) (fun _ _ _ h => h) (Or.inr ⟨by rfl, rfl⟩) ?_ ?_
                 rotate_left
                 ·simp only [Act.put, s1_, s2_, s3_, i64_w, i32_w]; rfl
                 refine pure_ (i := 36) (N := some 139) (v := undef) (a' := ?_) (bz_ 43 137438953471) rfl rfl (any_of HT_.out (by kernel_rfl)) (fun _ _ _ h => h) (Or.inr ⟨by rfl, rfl⟩) ?_ ?_
                 rotate_left
                 ·simp only [Act.put, s1_, s2_, s3_, i64_w, i32_w]; rfl
                 refine pure_ (i := 37) (N := some 140) (v := undef) (a' := ?_) (bz_ 43 274877906943) rfl rfl (any_of HT_.out (by kernel_rfl)) (fun _ _ _ h => h) (Or.inr ⟨by rfl, rfl⟩) ?_ ?_
                 rotate_left
                 ·simp only [Act.put, s1_, s2_, s3_, i64_w, i32_w]; rfl
                 refine pure_ (i := 38) (N := some 141) (v := undef) (a' := ?_) (bz_ 43 549755813887) rfl rfl (any_of HT_.out (by kernel_rfl)) (fun _ _ _ h => h) (Or.inr ⟨by rfl, rfl⟩) ?_ ?_
                 rotate_left
                 ·simp only [Act.put, s1_, s2_, s3_, i64_w, i32_w]; rfl
                 refine pure_ (i := 39) (N := some 142) (v := undef) (a' := ?_) (bz_ 43 1099511627775) rfl rfl (any_of HT_.out (by kernel_rfl)) (fun _ _ _ h => h) (Or.inr ⟨by rfl, rfl⟩) ?_ ?_
                 rotate_left
                 ·simp only [Act.put, s1_, s2_, s3_, i64_w, i32_w]; rfl
                 refine pure_ (i := 40) (N := some 143) (v := undef) (a' := ?_) (bz_ 43 2199023255551) rfl rfl (any_of HT_.out (by kernel_rfl)) (fun _ _ _ h => h) (Or.inr ⟨by rfl, rfl⟩) ?_ ?_
                 rotate_left
                 ·simp only [Act.put, s1_, s2_, s3_, i64_w, i32_w]; rfl
                 refine pure_ (i := 41) (N := some 144) (v := undef) (a' := ?_) (bz_ 43 4398046511103) rfl rfl (any_of HT_.out (by kernel_rfl)) (fun _ _ _ h => h) (Or.inr ⟨by rfl, rfl⟩) ?_ ?_
                 rotate_left
                 ·simp only [Act.put, s1_, s2_, s3_, i64_w, i32_w]; rfl
                 refine pure_ (i := 42) (N := some 145) (v := ?_) (a' := ?_) (bz_ 43 8796093022207) rfl rfl (any_of HT_.out (by kernel_rfl)) (fun _ _ _ h => h) (Or.inl ⟨by rfl, ?_⟩) ?_ ?_
                 rotate_left; intro w'; go_simp; with_reducible rfl; rotate_left; simp only [Act.put, s1_, s2_, s3_, i64_w, i32_w]; rfl
                 refine done_ (done_of HT_.out (by kernel_rfl)) ?_
                 try go_wp2
                 go_meet
                 case rel => exact ⟨_, (true), (by first | rfl | (simp; done) | (simp [*]; done)), H', ⟨by have := HK1.out; have := HJ38.out; have := HK3.out; first | omega | exact Nat.le_refl _⟩, ⟨by (with_reducible repeat (first | apply Kd.R_alloc | apply Kd.R_drewN | apply Kd.R_drew)); exact HO_12.out⟩, ⟨by (with_reducible repeat (first | apply Kd.R_alloc | apply Kd.R_drewN | apply Kd.R_drew)); exact HO_15.out⟩, ⟨by repeat (first | (with_reducible first | exact HB.out | apply below_alloc | apply pw_below_drewN | apply below_drew1) | exact HB.out)⟩⟩
               ·rw [if_neg c55] at H
                exact absurd H (by simp)
              ·rw [if_neg c54] at H
               exact absurd H (by simp)
             case rest =>
              clear HC53
              try clear c1
              try clear p2
              try clear p3
              try clear q3
              try clear hx3
              try clear c5
              try clear p6
              try clear c7
              try clear c16
              try clear p31
              try clear q31
              try clear hx31
              try clear c54
              try clear c55
              try clear c56
              try clear c56b0
              try clear c56b1
              try clear p64
              try clear c71
              try clear hx312_0
              try clear hx312_1
              try clear hx312_2
              try clear hx318_0
              try clear hx318_1
              try clear hx318_2
              try clear hx319_0
              try clear hx319_1
              try clear hx319_2
              try clear p312
              try clear p318
              try clear p319
              try clear q312
              try clear q318
              try clear q319
              obtain ⟨kq, x145_52, rfl, HA, HJ52, HO_12, HO_15, HB⟩ := hcut
              cases kq with
              | zero => exact absurd HA.out (by simp [gonglaw14_LexBlanks.j3])
              | succ kj52 =>
               have H := HA.out
               clear HA
               simp only [gonglaw14_LexBlanks.j3] at H
               by_cases c80 : x145_52 = true
               ·subst c80
                have H1 : (some false) = some r := by rw [if_pos rfl] at H; exact H
                clear H
                have H := H1
                clear H1
                obtain rfl := Option.some.inj H
                go_wp2
                go_ret
                exact ⟨by first | rfl | (simp [errW_none, errW_some] <;> rfl) | (simp [*, errW_none, errW_some] <;> rfl), by repeat (first | (with_reducible first | exact HB.out | apply below_alloc | apply pw_below_drewN | apply below_drew1) | exact HB.out)⟩
               ·replace c80 := Bool.eq_false_iff.mpr c80
                subst c80
                have H1 : (if (Int.tmod x100_3 2) = 0 then (if 0 ≤ x100_3 then (if x100_3 < (t301.length : Int) then (if ((rd_T25 t301 x100_3).f0) = 4 then (if 0 ≤ (wrap64 (Int.tdiv x100_3 2)) then (if (wrap64 (Int.tdiv x100_3 2)) < (l0.length : Int) then ((gongbook_Cut.f (rdOf ByteArray.empty l0 (wrap64 (Int.tdiv x100_3 2))) 50).bind fun t324 => (if ((rd_T25 t301 x100_3).f1).toList = t324.toList then (gonglaw14_LexBlanks.l1 kj52 l0 x7_1 t301 t306 (t306.length : Int) (wrap64 (x100_3 + 1))) else (some false))) else (none)) else (none)) else (some false)) else (none)) else (none)) else (gonglaw14_LexBlanks.l1 kj52 l0 x7_1 t301 t306 (t306.length : Int) (wrap64 (x100_3 + 1)))) = some r := by rw [if_neg (show ¬ (false = true) by decide)] at H; exact H
                clear H
                have H := H1
                clear H1
                by_cases c81 : (Int.tmod x100_3 2) = 0
                ·rw [if_pos c81] at H
                 have c81b0 : ((Int.tmod x100_3 2) == 0) = true := beq_iff_eq.mpr c81
                 have c81b1 : ((Int.tmod x100_3 2) != 0) = false := bne_eq_false_iff_eq.mpr c81
                 clear c81
                 by_cases c82 : 0 ≤ x100_3
                 ·rw [if_pos c82] at H
                  have c82b0 : decide (0 ≤ x100_3) = true := decide_eq_true c82
                  clear c82
                  by_cases c83 : x100_3 < (t301.length : Int)
                  ·rw [if_pos c83] at H
                   have c83b0 : decide (x100_3 < (t301.length : Int)) = true := decide_eq_true c83
                   clear c83
                   by_cases c84 : ((rd_T25 t301 x100_3).f0) = 4
                   ·rw [if_pos c84] at H
                    have c84b0 : (((rd_T25 t301 x100_3).f0) == 4) = true := beq_iff_eq.mpr c84
                    have c84b1 : (((rd_T25 t301 x100_3).f0) != 4) = false := bne_eq_false_iff_eq.mpr c84
                    clear c84
                    obtain ⟨ji85, hji85⟩ : ∃ j_ : Int, (wrap64 (Int.tdiv x100_3 2)) = j_ := ⟨_, rfl⟩
                    replace H : (if 0 ≤ (ji85) then (if (ji85) < (l0.length : Int) then ((gongbook_Cut.f (rdOf ByteArray.empty l0 (ji85)) 50).bind fun t324 => (if ((rd_T25 t301 x100_3).f1).toList = t324.toList then (gonglaw14_LexBlanks.l1 kj52 l0 x7_1 t301 t306 (t306.length : Int) (wrap64 (x100_3 + 1))) else (some false))) else (none)) else (none)) = some r := by first | (rw [hji85] at H; exact H) | (simp only [hji85] at H ⊢; exact H)
                    have hji85w : (IntKind.i64.wrap (Int.tdiv x100_3 2)) = ji85 := (i64_w _).trans hji85
                    by_cases c86 : 0 ≤ (ji85)
                    ·rw [if_pos c86] at H
                     have c86b0 : decide (0 ≤ (ji85)) = true := decide_eq_true c86
                     clear c86
                     by_cases c87 : (ji85) < (l0.length : Int)
                     ·rw [if_pos c87] at H
                      have c87b0 : decide ((ji85) < (l0.length : Int)) = true := decide_eq_true c87
                      clear c87
                      replace H := Option.bind_eq_some_iff.mp H
                      obtain ⟨t324, A880, H⟩ := H
                      replace H : (if ((rd_T25 t301 x100_3).f1).toList = t324.toList then (gonglaw14_LexBlanks.l1 kj52 l0 x7_1 t301 t306 (t306.length : Int) (wrap64 (x100_3 + 1))) else (some false)) = some r := H
                      have A88 := Aside0.mk A880
                      clear A880
                      by_cases c89 : ((rd_T25 t301 x100_3).f1).toList = t324.toList
                      ·rw [if_pos c89] at H
                       have c89b0 : (((rd_T25 t301 x100_3).f1).toList == t324.toList) = true := beq_iff_eq.mpr c89
                       have c89b1 : (((rd_T25 t301 x100_3).f1).toList != t324.toList) = false := bne_eq_false_iff_eq.mpr c89
                       clear c89
                       have H' := Aside0.mk H
                       clear H
                       try go_wp2
                       have n0_ := Aside0.mk (Kd.R_drew HO_12.out)
                       have n1_ := Aside0.mk (Kd.R_drew HO_15.out)
                       have n2_ := Aside0.mk (below_drew1 HB.out)
                       clear HO_12
                       clear HO_15
                       clear HB
                       have HO_12 := n0_
                       have HO_15 := n1_
                       have HB := n2_
                       clear n0_ n1_ n2_
                       obtain ⟨Ao91, co91, eo91⟩ := Kd.R_slice HO_12.out
                       (first | subst eo91 | (injection eo91 with f1_ f2_ f3_; have f4_ := f1_.symm; have f5_ := f3_.symm; clear f1_ f2_ f3_; subst f4_; subst f5_))
                       have p321 : 0 ≤ (x100_3 : Int) := of_decide_eq_true (by first | (with_reducible assumption) | assumption)
                       have q321 : x100_3 < (t301.length : Int) := of_decide_eq_true (by first | (with_reducible assumption) | assumption)
                       obtain ⟨ad321, e321, hx321_0, hx321_1, hx321_2⟩ := at_T25 (Kd.R_reads' HO_12.out).2.2 x100_3 p321 q321
                       cases e321
                       replace p321 := eq_true p321
                       replace q321 := eq_true q321
                       have p322 : 0 ≤ (x100_3 : Int) := of_decide_eq_true (by first | (with_reducible assumption) | assumption)
                       have q322 : x100_3 < (t301.length : Int) := of_decide_eq_true (by first | (with_reducible assumption) | assumption)
                       obtain ⟨ad322, e322, hx322_0, hx322_1, hx322_2⟩ := at_T25 (Kd.R_reads' HO_12.out).2.2 x100_3 p322 q322
                       obtain rfl : ad321 = ad322 := (by injection e322)
                       replace p322 := eq_true p322
                       replace q322 := eq_true q322
                       have p323 : 0 ≤ ((ji85) : Int) := of_decide_eq_true (by first | (with_reducible assumption) | assumption)
                       have q323 : (ji85) < (l0.length : Int) := of_decide_eq_true (by first | (with_reducible assumption) | assumption)
                       obtain ⟨ad323, e323, hx323_0⟩ := Kd.at_string HR0.out (ji85) p323 q323
                       have hw323_0 := hx323_0
                       cases e323
                       replace hx323_0 := (HB.out.cell (World.block_lt_of_cell? w _ hx323_0)).trans hx323_0
                       replace p323 := eq_true p323
                       replace q323 := eq_true q323
                       refine start_ (n := 25) (S := fun w' => w'.cell? (ad321.add ((x100_3).toNat * 3)) = some (.int .i64 ((rd_T25 t301 x100_3).f0)) ∧ w'.cell? ⟨(ad321.add ((x100_3).toNat * 3)).block, (ad321.add ((x100_3).toNat * 3)).off + 1, none⟩ = some (.string ((rd_T25 t301 x100_3).f1)) ∧ w'.cell? ⟨(ad321.add ((x100_3).toNat * 3)).block, (ad321.add ((x100_3).toNat * 3)).off + 2, none⟩ = some (.int .i64 ((rd_T25 t301 x100_3).f2)) ∧ w'.cell? (ad321.add ((x100_3).toNat * 3)) = some (.int .i64 ((rd_T25 t301 x100_3).f0)) ∧ w'.cell? ⟨(ad321.add ((x100_3).toNat * 3)).block, (ad321.add ((x100_3).toNat * 3)).off + 1, none⟩ = some (.string ((rd_T25 t301 x100_3).f1)) ∧ w'.cell? ⟨(ad321.add ((x100_3).toNat * 3)).block, (ad321.add ((x100_3).toNat * 3)).off + 2, none⟩ = some (.int .i64 ((rd_T25 t301 x100_3).f2)) ∧ w'.cell? (ad323.add ((ji85)).toNat) = some (.string (rdOf ByteArray.empty l0 (ji85)))) (ds := []) #[false, false, false, false, false, false, false, false, false, false, false, false, false, false, false, false, false, false, false, false, false, false, false, false, false] (by kernel_rfl) rfl rfl ⟨hx321_0, hx321_1, hx321_2, hx322_0, hx322_1, hx322_2, ((HB.out.cell (World.block_lt_of_cell? w _ hw323_0)).trans hw323_0)⟩ (fun hHeld => ?_); refine with_tabW gonglaw14_LexBlanks.tab26 gonglaw14_LexBlanks.bits26 (fun HT_ HW_ => ?_)
                       generalize wc.drew = w90 at HO_12 HO_15 HB hx321_0 hx321_1 hx321_2 hx322_0 hx322_1 hx322_2 hx323_0 hHeld ⊢
                       refine pure_ (i := 0) (N := some 146) (v := ?_) (a' := ?_) (bz_ 25 1) rfl rfl (any_of HT_.out (by kernel_rfl)) (fun _ _ _ h => h) (Or.inl ⟨by rfl, ?_⟩) ?_ ?_
                       rotate_left; intro w'; go_simp; with_reducible rfl; rotate_left; simp only [Act.put, s1_, s2_, s3_, i64_w, i32_w]; rfl
                       refine pure_ (i := 1) (N := some 147) (v := ?_) (a' := ?_) (bz_ 25 3) rfl rfl (any_of HT_.out (by kernel_rfl)) (fun _ _ _ h => h) (Or.inl ⟨by rfl, ?_⟩) ?_ ?_
                       rotate_left; intro w'; go_simp; with_reducible rfl; rotate_left; simp only [Act.put, s1_, s2_, s3_, i64_w, i32_w]; rfl
                       refine pure_ (i := 2) (N := some 148) (v := ?_) (a' := ?_) (bz_ 25 7) rfl rfl (any_of HT_.out (by kernel_rfl)) (fun _ _ _ h => h) (Or.inl ⟨by rfl, ?_⟩) ?_ ?_
                       rotate_left; intro w'; go_simp; with_reducible rfl; rotate_left; simp only [Act.put, s1_, s2_, s3_, i64_w, i32_w]; rfl
                       refine pure_ (i := 3) (N := some 149) (v := ?_) (a' := ?_) (bz_ 25 15) rfl rfl (any_of HT_.out (by kernel_rfl)) (fun _ _ _ h => h) (Or.inl ⟨by rfl, ?_⟩) ?_ ?_
                       rotate_left; intro w'; go_simp; with_reducible rfl; rotate_left; simp only [Act.put, s1_, s2_, s3_, i64_w, i32_w]; rfl
                       refine pure_ (i := 4) (N := some 150) (v := ?_) (a' := ?_) (bz_ 25 31) rfl rfl (any_of HT_.out (by kernel_rfl)) (fun _ _ _ h => h) (Or.inl ⟨by rfl, ?_⟩) ?_ ?_
                       rotate_left; intro w'; go_simp; with_reducible rfl; rotate_left; simp only [Act.put, s1_, s2_, s3_, i64_w, i32_w]; rfl
                       refine pure_ (i := 5) (N := some 151) (v := ?_) (a' := ?_) (bz_ 25 63) rfl rfl (any_of HT_.out (by kernel_rfl)) (fun _ _ _ h => h) (Or.inl ⟨by rfl, ?_⟩) ?_ ?_
                       rotate_left; intro w'; go_simp; with_reducible rfl; rotate_left; simp only [Act.put, s1_, s2_, s3_, i64_w, i32_w]; rfl
                       refine pure_ (i := 6) (N := some 152) (v := ?_) (a' := ?_) (bz_ 25 127) rfl rfl (any_of HT_.out (by kernel_rfl)) (fun _ _ _ h => h) (Or.inl ⟨by rfl, ?_⟩) ?_ ?_
                       rotate_left; intro w'; go_simp; with_reducible rfl; rotate_left; simp only [Act.put, s1_, s2_, s3_, i64_w, i32_w]; rfl
                       refine pure_ (i := 7) (N := some 153) (v := ?_) (a' := ?_) (bz_ 25 255) rfl rfl (any_of HT_.out (by kernel_rfl)) (fun _ _ _ h => h) (Or.inl ⟨by rfl, ?_⟩) ?_ ?_
                       rotate_left; intro w'; go_simp; with_reducible rfl; rotate_left; simp only [Act.put, s1_, s2_, s3_, i64_w, i32_w]; rfl
                       refine take_ (i := 8) (N := some 154) (v := ?_) (a' := ?_) #[true, true, true, true, true, true, true, true, true, false, false, false, false, false, false, false, false, false, false, false, false, false, false, false, false] rfl rfl (take_ofW HT_.out HW_.out (by kernel_rfl)) (fun _ _ _ h => h) (Or.inl ⟨by rfl, ?_⟩) hHeld ?_ ?_
                       rotate_left
                       ·rintro w' ⟨s0, s1, s2, s3, s4, s5, s6⟩
                        go_simp
                        with_reducible rfl
                       rotate_left
                       ·simp only [Act.put, s1_, s2_, s3_, i64_w, i32_w]; rfl
                       refine pure_ (i := 9) (N := some 155) (v := ?_) (a' := ?_) (bz_ 25 1023) rfl rfl (any_of HT_.out (by kernel_rfl)) (fun _ _ _ h => h) (Or.inl ⟨by rfl, ?_⟩) ?_ ?_
                       rotate_left; intro w'; go_simp; with_reducible rfl; rotate_left; simp only [Act.put, s1_, s2_, s3_, i64_w, i32_w]; rfl
                       refine pure_ (i := 10) (N := some 156) (v := ?_) (a' := ?_) (bz_ 25 2047) rfl rfl (any_of HT_.out (by kernel_rfl)) (fun _ _ _ h => h) (Or.inl ⟨by rfl, ?_⟩) ?_ ?_
                       rotate_left; intro w'; go_simp; with_reducible rfl; rotate_left; simp only [Act.put, s1_, s2_, s3_, i64_w, i32_w]; rfl
                       refine pure_ (i := 11) (N := some 157) (v := ?_) (a' := ?_) (bz_ 25 4095) rfl rfl (any_of HT_.out (by kernel_rfl)) (fun _ _ _ h => h) (Or.inl ⟨by rfl, ?_⟩) ?_ ?_
                       rotate_left; intro w'; go_simp; with_reducible rfl; rotate_left; simp only [Act.put, s1_, s2_, s3_, i64_w, i32_w]; rfl
                       refine pure_ (i := 12) (N := some 158) (v := ?_) (a' := ?_) (bz_ 25 8191) rfl rfl (any_of HT_.out (by kernel_rfl)) (fun _ _ _ h => h) (Or.inl ⟨by rfl, ?_⟩) ?_ ?_
                       rotate_left; intro w'; go_simp; with_reducible rfl; rotate_left; simp only [Act.put, s1_, s2_, s3_, i64_w, i32_w]; rfl
                       refine pure_ (i := 13) (N := some 159) (v := ?_) (a' := ?_) (bz_ 25 16383) rfl rfl (any_of HT_.out (by kernel_rfl)) (fun _ _ _ h => h) (Or.inl ⟨by rfl, ?_⟩) ?_ ?_
                       rotate_left; intro w'; go_simp; with_reducible rfl; rotate_left; simp only [Act.put, s1_, s2_, s3_, i64_w, i32_w]; rfl
                       refine pure_ (i := 14) (N := some 160) (v := ?_) (a' := ?_) (bz_ 25 32767) rfl rfl (any_of HT_.out (by kernel_rfl)) (fun _ _ _ h => h) (Or.inl ⟨by rfl, ?_⟩) ?_ ?_
                       rotate_left; intro w'; go_simp; with_reducible rfl; rotate_left; simp only [Act.put, s1_, s2_, s3_, i64_w, i32_w]; rfl
                       refine pure_ (i := 16) (N := some 162) (v := ?_) (a' := ?_) (bz_ 25 98303) rfl rfl (any_of HT_.out (by kernel_rfl)) (fun _ _ _ h => h) (Or.inl ⟨by rfl, ?_⟩) ?_ ?_
                       rotate_left; intro w'; go_simp; with_reducible rfl; rotate_left; simp only [Act.put, s1_, s2_, s3_, i64_w, i32_w]; rfl
                       refine pure_ (i := 17) (N := some 163) (v := ?_) (a' := ?_) (bz_ 25 229375) rfl rfl (any_of HT_.out (by kernel_rfl)) (fun _ _ _ h => h) (Or.inl ⟨by rfl, ?_⟩) ?_ ?_
                       rotate_left; intro w'; go_simp; with_reducible rfl; rotate_left; simp only [Act.put, s1_, s2_, s3_, i64_w, i32_w]; rfl
                       refine pure_ (i := 18) (N := some 164) (v := ?_) (a' := ?_) (bz_ 25 491519) rfl rfl (any_of HT_.out (by kernel_rfl)) (fun _ _ _ h => h) (Or.inl ⟨by rfl, ?_⟩) ?_ ?_
                       rotate_left; intro w'; go_simp; with_reducible rfl; rotate_left; simp only [Act.put, s1_, s2_, s3_, i64_w, i32_w]; rfl
                       refine pure_ (i := 19) (N := some 165) (v := ?_) (a' := ?_) (bz_ 25 1015807) rfl rfl (any_of HT_.out (by kernel_rfl)) (fun _ _ _ h => h) (Or.inl ⟨by rfl, ?_⟩) ?_ ?_
                       rotate_left; intro w'; go_simp; with_reducible rfl; rotate_left; simp only [Act.put, s1_, s2_, s3_, i64_w, i32_w]; rfl
                       refine take_ (i := 15) (N := some 161) (v := ?_) (a' := ?_) #[true, true, true, true, true, true, true, true, true, true, true, true, true, true, true, true, true, true, true, true, false, false, false, false, false] rfl rfl (take_ofW HT_.out HW_.out (by kernel_rfl)) (fun _ _ _ h => h) (Or.inl ⟨by rfl, ?_⟩) hHeld ?_ ?_
                       rotate_left
                       ·rintro w' ⟨s0, s1, s2, s3, s4, s5, s6⟩
                        go_simp
                        with_reducible rfl
                       rotate_left
                       ·simp only [Act.put, s1_, s2_, s3_, i64_w, i32_w]; rfl
                       refine take_ (i := 20) (N := some 166) (v := ?_) (a' := ?_) #[true, true, true, true, true, true, true, true, true, true, true, true, true, true, true, true, true, true, true, true, true, false, false, false, false] rfl rfl (take_ofW HT_.out HW_.out (by kernel_rfl)) (fun _ _ _ h => h) (Or.inl ⟨by rfl, ?_⟩) hHeld ?_ ?_
                       rotate_left
                       ·rintro w' ⟨s0, s1, s2, s3, s4, s5, s6⟩
                        go_simp
                        with_reducible rfl
                       rotate_left
                       ·simp only [Act.put, s1_, s2_, s3_, i64_w, i32_w]; rfl
                       refine one_ (i := 21) (N := some 167) #[true, true, true, true, true, true, true, true, true, true, true, true, true, true, true, true, true, true, true, true, true, true, false, false, false] rfl rfl (one_of HT_.out (by kernel_rfl)) (by decide) (fun K hK => ?_)
                       refine goes_ Tryd.func18 (by kernel_rfl) rfl #[.string (rdOf ByteArray.empty l0 (ji85)), .int .i64 50] (by rfl) rfl rfl (by (try simp only [List.map_toArray, List.map_cons, List.map_nil]); first | done | (simp only [hji85]; rfl) | rfl | (simp only [List.length_drop, List.length_take]; rfl)) ?_
                       with_reducible refine (gongbook_Cut.calls (rdOf ByteArray.empty l0 (ji85)) 50 t324 _ A88.out).mono ?_
                       rintro e w' ⟨rfl, ⟨nd, rfl⟩⟩
                       refine ⟨_, rfl, ?_⟩
                       refine hK.out _ _ ⟨hHeld.1, hHeld.2.1, hHeld.2.2.1, hHeld.2.2.2.1, hHeld.2.2.2.2.1, hHeld.2.2.2.2.2.1, ((HB.out.cell (World.block_lt_of_cell? w _ hw323_0)).trans hw323_0)⟩ (fun hHeld => ?_)
                       clear hK K
                       refine norm_ (a' := ?_) ?_ ?_
                       rotate_left
                       ·show Act.put _ (some 167) _ = _
                        simp only [Act.put, s1_, s2_, s3_, i64_w, i32_w]
                        rfl
                       refine pure_ (i := 22) (N := some 168) (v := ?_) (a' := ?_) (bz_ 25 8388607) rfl rfl (any_of HT_.out (by kernel_rfl)) (fun _ _ _ h => h) (Or.inl ⟨by rfl, ?_⟩) ?_ ?_
                       rotate_left; intro w'; go_simp; with_reducible rfl; rotate_left; simp only [Act.put, s1_, s2_, s3_, i64_w, i32_w]; rfl
                       refine pure_ (i := 23) (N := some 169) (v := ?_) (a' := ?_) (bz_ 25 16777215) rfl rfl (any_of HT_.out (by kernel_rfl)) (fun _ _ _ h => h) (Or.inl ⟨by rfl, ?_⟩) ?_ ?_
                       rotate_left; intro w'; go_simp; with_reducible rfl; rotate_left; simp only [Act.put, s1_, s2_, s3_, i64_w, i32_w]; rfl
                       refine pure_ (i := 24) (N := some 170) (v := ?_) (a' := ?_) (bz_ 25 33554431) rfl rfl (any_of HT_.out (by kernel_rfl)) (fun _ _ _ h => h) (Or.inl ⟨by rfl, ?_⟩) ?_ ?_
                       rotate_left; intro w'; go_simp; with_reducible rfl; rotate_left; simp only [Act.put, s1_, s2_, s3_, i64_w, i32_w]; rfl
                       refine done_ (done_of HT_.out (by kernel_rfl)) ?_
                       try go_wp2
                       go_roundg kj52
                       case measure => have := HK1.out; have := HJ38.out; have := HK3.out; have := HJ52.out; omega
                       case rel => exact ⟨(wrap64 (x100_3 + 1)), (by first | rfl | (simp; done) | (simp [*]; done)), H', ⟨by have := HK1.out; have := HJ38.out; have := HK3.out; have := HJ52.out; omega⟩, ⟨by (with_reducible repeat (first | apply Kd.R_alloc | apply Kd.R_drewN | apply Kd.R_drew)); exact HO_12.out⟩, ⟨by (with_reducible repeat (first | apply Kd.R_alloc | apply Kd.R_drewN | apply Kd.R_drew)); exact HO_15.out⟩, ⟨by repeat (first | (with_reducible first | exact HB.out | apply below_alloc | apply pw_below_drewN | apply below_drew1) | exact HB.out)⟩⟩
                      ·rw [if_neg c89] at H
                       have c89b0 : (((rd_T25 t301 x100_3).f1).toList == t324.toList) = false := beq_eq_false_iff_ne.mpr c89
                       have c89b1 : (((rd_T25 t301 x100_3).f1).toList != t324.toList) = true := bne_iff_ne.mpr c89
                       obtain rfl := Option.some.inj H
                       try go_wp2
                       have n0_ := Aside0.mk (Kd.R_drew HO_12.out)
                       have n1_ := Aside0.mk (Kd.R_drew HO_15.out)
                       have n2_ := Aside0.mk (below_drew1 HB.out)
                       clear HO_12
                       clear HO_15
                       clear HB
                       have HO_12 := n0_
                       have HO_15 := n1_
                       have HB := n2_
                       clear n0_ n1_ n2_
                       obtain ⟨Ao93, co93, eo93⟩ := Kd.R_slice HO_12.out
                       (first | subst eo93 | (injection eo93 with f1_ f2_ f3_; have f4_ := f1_.symm; have f5_ := f3_.symm; clear f1_ f2_ f3_; subst f4_; subst f5_))
                       have p321 : 0 ≤ (x100_3 : Int) := of_decide_eq_true (by first | (with_reducible assumption) | assumption)
                       have q321 : x100_3 < (t301.length : Int) := of_decide_eq_true (by first | (with_reducible assumption) | assumption)
                       obtain ⟨ad321, e321, hx321_0, hx321_1, hx321_2⟩ := at_T25 (Kd.R_reads' HO_12.out).2.2 x100_3 p321 q321
                       cases e321
                       replace p321 := eq_true p321
                       replace q321 := eq_true q321
                       have p322 : 0 ≤ (x100_3 : Int) := of_decide_eq_true (by first | (with_reducible assumption) | assumption)
                       have q322 : x100_3 < (t301.length : Int) := of_decide_eq_true (by first | (with_reducible assumption) | assumption)
                       obtain ⟨ad322, e322, hx322_0, hx322_1, hx322_2⟩ := at_T25 (Kd.R_reads' HO_12.out).2.2 x100_3 p322 q322
                       obtain rfl : ad321 = ad322 := (by injection e322)
                       replace p322 := eq_true p322
                       replace q322 := eq_true q322
                       have p323 : 0 ≤ ((ji85) : Int) := of_decide_eq_true (by first | (with_reducible assumption) | assumption)
                       have q323 : (ji85) < (l0.length : Int) := of_decide_eq_true (by first | (with_reducible assumption) | assumption)
                       obtain ⟨ad323, e323, hx323_0⟩ := Kd.at_string HR0.out (ji85) p323 q323
                       have hw323_0 := hx323_0
                       cases e323
                       replace hx323_0 := (HB.out.cell (World.block_lt_of_cell? w _ hx323_0)).trans hx323_0
                       replace p323 := eq_true p323
                       replace q323 := eq_true q323
                       refine start_ (n := 25) (S := fun w' => w'.cell? (ad321.add ((x100_3).toNat * 3)) = some (.int .i64 ((rd_T25 t301 x100_3).f0)) ∧ w'.cell? ⟨(ad321.add ((x100_3).toNat * 3)).block, (ad321.add ((x100_3).toNat * 3)).off + 1, none⟩ = some (.string ((rd_T25 t301 x100_3).f1)) ∧ w'.cell? ⟨(ad321.add ((x100_3).toNat * 3)).block, (ad321.add ((x100_3).toNat * 3)).off + 2, none⟩ = some (.int .i64 ((rd_T25 t301 x100_3).f2)) ∧ w'.cell? (ad321.add ((x100_3).toNat * 3)) = some (.int .i64 ((rd_T25 t301 x100_3).f0)) ∧ w'.cell? ⟨(ad321.add ((x100_3).toNat * 3)).block, (ad321.add ((x100_3).toNat * 3)).off + 1, none⟩ = some (.string ((rd_T25 t301 x100_3).f1)) ∧ w'.cell? ⟨(ad321.add ((x100_3).toNat * 3)).block, (ad321.add ((x100_3).toNat * 3)).off + 2, none⟩ = some (.int .i64 ((rd_T25 t301 x100_3).f2)) ∧ w'.cell? (ad323.add ((ji85)).toNat) = some (.string (rdOf ByteArray.empty l0 (ji85)))) (ds := []) #[false, false, false, false, false, false, false, false, false, false, false, false, false, false, false, false, false, false, false, false, false, false, false, false, false] (by kernel_rfl) rfl rfl ⟨hx321_0, hx321_1, hx321_2, hx322_0, hx322_1, hx322_2, ((HB.out.cell (World.block_lt_of_cell? w _ hw323_0)).trans hw323_0)⟩ (fun hHeld => ?_); refine with_tabW gonglaw14_LexBlanks.tab26 gonglaw14_LexBlanks.bits26 (fun HT_ HW_ => ?_)
                       generalize wc.drew = w92 at HO_12 HO_15 HB hx321_0 hx321_1 hx321_2 hx322_0 hx322_1 hx322_2 hx323_0 hHeld ⊢
                       refine pure_ (i := 0) (N := some 146) (v := ?_) (a' := ?_) (bz_ 25 1) rfl rfl (any_of HT_.out (by kernel_rfl)) (fun _ _ _ h => h) (Or.inl ⟨by rfl, ?_⟩) ?_ ?_
                       rotate_left; intro w'; go_simp; with_reducible rfl; rotate_left; simp only [Act.put, s1_, s2_, s3_, i64_w, i32_w]; rfl
                       refine pure_ (i := 1) (N := some 147) (v := ?_) (a' := ?_) (bz_ 25 3) rfl rfl (any_of HT_.out (by kernel_rfl)) (fun _ _ _ h => h) (Or.inl ⟨by rfl, ?_⟩) ?_ ?_
                       rotate_left; intro w'; go_simp; with_reducible rfl; rotate_left; simp only [Act.put, s1_, s2_, s3_, i64_w, i32_w]; rfl
                       refine pure_ (i := 2) (N := some 148) (v := ?_) (a' := ?_) (bz_ 25 7) rfl rfl (any_of HT_.out (by kernel_rfl)) (fun _ _ _ h => h) (Or.inl ⟨by rfl, ?_⟩) ?_ ?_
                       rotate_left; intro w'; go_simp; with_reducible rfl; rotate_left; simp only [Act.put, s1_, s2_, s3_, i64_w, i32_w]; rfl
                       refine pure_ (i := 3) (N := some 149) (v := ?_) (a' := ?_) (bz_ 25 15) rfl rfl (any_of HT_.out (by kernel_rfl)) (fun _ _ _ h => h) (Or.inl ⟨by rfl, ?_⟩) ?_ ?_
                       rotate_left; intro w'; go_simp; with_reducible rfl; rotate_left; simp only [Act.put, s1_, s2_, s3_, i64_w, i32_w]; rfl
                       refine pure_ (i := 4) (N := some 150) (v := ?_) (a' := ?_) (bz_ 25 31) rfl rfl (any_of HT_.out (by kernel_rfl)) (fun _ _ _ h => h) (Or.inl ⟨by rfl, ?_⟩) ?_ ?_
                       rotate_left; intro w'; go_simp; with_reducible rfl; rotate_left; simp only [Act.put, s1_, s2_, s3_, i64_w, i32_w]; rfl
                       refine pure_ (i := 5) (N := some 151) (v := ?_) (a' := ?_) (bz_ 25 63) rfl rfl (any_of HT_.out (by kernel_rfl)) (fun _ _ _ h => h) (Or.inl ⟨by rfl, ?_⟩) ?_ ?_
                       rotate_left; intro w'; go_simp; with_reducible rfl; rotate_left; simp only [Act.put, s1_, s2_, s3_, i64_w, i32_w]; rfl
                       refine pure_ (i := 6) (N := some 152) (v := ?_) (a' := ?_) (bz_ 25 127) rfl rfl (any_of HT_.out (by kernel_rfl)) (fun _ _ _ h => h) (Or.inl ⟨by rfl, ?_⟩) ?_ ?_
                       rotate_left; intro w'; go_simp; with_reducible rfl; rotate_left; simp only [Act.put, s1_, s2_, s3_, i64_w, i32_w]; rfl
                       refine pure_ (i := 7) (N := some 153) (v := ?_) (a' := ?_) (bz_ 25 255) rfl rfl (any_of HT_.out (by kernel_rfl)) (fun _ _ _ h => h) (Or.inl ⟨by rfl, ?_⟩) ?_ ?_
                       rotate_left; intro w'; go_simp; with_reducible rfl; rotate_left; simp only [Act.put, s1_, s2_, s3_, i64_w, i32_w]; rfl
                       refine take_ (i := 8) (N := some 154) (v := ?_) (a' := ?_) #[true, true, true, true, true, true, true, true, true, false, false, false, false, false, false, false, false, false, false, false, false, false, false, false, false] rfl rfl (take_ofW HT_.out HW_.out (by kernel_rfl)) (fun _ _ _ h => h) (Or.inl ⟨by rfl, ?_⟩) hHeld ?_ ?_
                       rotate_left
                       ·rintro w' ⟨s0, s1, s2, s3, s4, s5, s6⟩
                        go_simp
                        with_reducible rfl
                       rotate_left
                       ·simp only [Act.put, s1_, s2_, s3_, i64_w, i32_w]; rfl
                       refine pure_ (i := 9) (N := some 155) (v := ?_) (a' := ?_) (bz_ 25 1023) rfl rfl (any_of HT_.out (by kernel_rfl)) (fun _ _ _ h => h) (Or.inl ⟨by rfl, ?_⟩) ?_ ?_
                       rotate_left; intro w'; go_simp; with_reducible rfl; rotate_left; simp only [Act.put, s1_, s2_, s3_, i64_w, i32_w]; rfl
                       refine pure_ (i := 10) (N := some 156) (v := ?_) (a' := ?_) (bz_ 25 2047) rfl rfl (any_of HT_.out (by kernel_rfl)) (fun _ _ _ h => h) (Or.inl ⟨by rfl, ?_⟩) ?_ ?_
                       rotate_left; intro w'; go_simp; with_reducible rfl; rotate_left; simp only [Act.put, s1_, s2_, s3_, i64_w, i32_w]; rfl
                       refine pure_ (i := 11) (N := some 157) (v := ?_) (a' := ?_) (bz_ 25 4095) rfl rfl (any_of HT_.out (by kernel_rfl)) (fun _ _ _ h => h) (Or.inl ⟨by rfl, ?_⟩) ?_ ?_
                       rotate_left; intro w'; go_simp; with_reducible rfl; rotate_left; simp only [Act.put, s1_, s2_, s3_, i64_w, i32_w]; rfl
                       refine pure_ (i := 12) (N := some 158) (v := ?_) (a' := ?_) (bz_ 25 8191) rfl rfl (any_of HT_.out (by kernel_rfl)) (fun _ _ _ h => h) (Or.inl ⟨by rfl, ?_⟩) ?_ ?_
                       rotate_left; intro w'; go_simp; with_reducible rfl; rotate_left; simp only [Act.put, s1_, s2_, s3_, i64_w, i32_w]; rfl
                       refine pure_ (i := 13) (N := some 159) (v := ?_) (a' := ?_) (bz_ 25 16383) rfl rfl (any_of HT_.out (by kernel_rfl)) (fun _ _ _ h => h) (Or.inl ⟨by rfl, ?_⟩) ?_ ?_
                       rotate_left; intro w'; go_simp; with_reducible rfl; rotate_left; simp only [Act.put, s1_, s2_, s3_, i64_w, i32_w]; rfl
                       refine pure_ (i := 14) (N := some 160) (v := ?_) (a' := ?_) (bz_ 25 32767) rfl rfl (any_of HT_.out (by kernel_rfl)) (fun _ _ _ h => h) (Or.inl ⟨by rfl, ?_⟩) ?_ ?_
                       rotate_left; intro w'; go_simp; with_reducible rfl; rotate_left; simp only [Act.put, s1_, s2_, s3_, i64_w, i32_w]; rfl
                       refine pure_ (i := 16) (N := some 162) (v := ?_) (a' := ?_) (bz_ 25 98303) rfl rfl (any_of HT_.out (by kernel_rfl)) (fun _ _ _ h => h) (Or.inl ⟨by rfl, ?_⟩) ?_ ?_
                       rotate_left; intro w'; go_simp; with_reducible rfl; rotate_left; simp only [Act.put, s1_, s2_, s3_, i64_w, i32_w]; rfl
                       refine pure_ (i := 17) (N := some 163) (v := ?_) (a' := ?_) (bz_ 25 229375) rfl rfl (any_of HT_.out (by kernel_rfl)) (fun _ _ _ h => h) (Or.inl ⟨by rfl, ?_⟩) ?_ ?_
                       rotate_left; intro w'; go_simp; with_reducible rfl; rotate_left; simp only [Act.put, s1_, s2_, s3_, i64_w, i32_w]; rfl
                       refine pure_ (i := 18) (N := some 164) (v := ?_) (a' := ?_) (bz_ 25 491519) rfl rfl (any_of HT_.out (by kernel_rfl)) (fun _ _ _ h => h) (Or.inl ⟨by rfl, ?_⟩) ?_ ?_
                       rotate_left; intro w'; go_simp; with_reducible rfl; rotate_left; simp only [Act.put, s1_, s2_, s3_, i64_w, i32_w]; rfl
                       refine pure_ (i := 19) (N := some 165) (v := ?_) (a' := ?_) (bz_ 25 1015807) rfl rfl (any_of HT_.out (by kernel_rfl)) (fun _ _ _ h => h) (Or.inl ⟨by rfl, ?_⟩) ?_ ?_
                       rotate_left; intro w'; go_simp; with_reducible rfl; rotate_left; simp only [Act.put, s1_, s2_, s3_, i64_w, i32_w]; rfl
                       refine take_ (i := 15) (N := some 161) (v := ?_) (a' := ?_) #[true, true, true, true, true, true, true, true, true, true, true, true, true, true, true, true, true, true, true, true, false, false, false, false, false] rfl rfl (take_ofW HT_.out HW_.out (by kernel_rfl)) (fun _ _ _ h => h) (Or.inl ⟨by rfl, ?_⟩) hHeld ?_ ?_
                       rotate_left
                       ·rintro w' ⟨s0, s1, s2, s3, s4, s5, s6⟩
                        go_simp
                        with_reducible rfl
                       rotate_left
                       ·simp only [Act.put, s1_, s2_, s3_, i64_w, i32_w]; rfl
                       refine take_ (i := 20) (N := some 166) (v := ?_) (a' := ?_) #[true, true, true, true, true, true, true, true, true, true, true, true, true, true, true, true, true, true, true, true, true, false, false, false, false] rfl rfl (take_ofW HT_.out HW_.out (by kernel_rfl)) (fun _ _ _ h => h) (Or.inl ⟨by rfl, ?_⟩) hHeld ?_ ?_
                       rotate_left
                       ·rintro w' ⟨s0, s1, s2, s3, s4, s5, s6⟩
                        go_simp
                        with_reducible rfl
                       rotate_left
                       ·simp only [Act.put, s1_, s2_, s3_, i64_w, i32_w]; rfl
                       refine one_ (i := 21) (N := some 167) #[true, true, true, true, true, true, true, true, true, true, true, true, true, true, true, true, true, true, true, true, true, true, false, false, false] rfl rfl (one_of HT_.out (by kernel_rfl)) (by decide) (fun K hK => ?_)
                       refine goes_ Tryd.func18 (by kernel_rfl) rfl #[.string (rdOf ByteArray.empty l0 (ji85)), .int .i64 50] (by rfl) rfl rfl (by (try simp only [List.map_toArray, List.map_cons, List.map_nil]); first | done | (simp only [hji85]; rfl) | rfl | (simp only [List.length_drop, List.length_take]; rfl)) ?_
                       with_reducible refine (gongbook_Cut.calls (rdOf ByteArray.empty l0 (ji85)) 50 t324 _ A88.out).mono ?_
                       rintro e w' ⟨rfl, ⟨nd, rfl⟩⟩
                       refine ⟨_, rfl, ?_⟩
                       refine hK.out _ _ ⟨hHeld.1, hHeld.2.1, hHeld.2.2.1, hHeld.2.2.2.1, hHeld.2.2.2.2.1, hHeld.2.2.2.2.2.1, ((HB.out.cell (World.block_lt_of_cell? w _ hw323_0)).trans hw323_0)⟩ (fun hHeld => ?_)
                       clear hK K
                       refine norm_ (a' := ?_) ?_ ?_
                       rotate_left
                       ·show Act.put _ (some 167) _ = _
                        simp only [Act.put, s1_, s2_, s3_, i64_w, i32_w]
                        rfl
                       refine pure_ (i := 22) (N := some 168) (v := ?_) (a' := ?_) (bz_ 25 8388607) rfl rfl (any_of HT_.out (by kernel_rfl)) (fun _ _ _ h => h) (Or.inl ⟨by rfl, ?_⟩) ?_ ?_
                       rotate_left; intro w'; go_simp; with_reducible rfl; rotate_left; simp only [Act.put, s1_, s2_, s3_, i64_w, i32_w]; rfl
                       refine pure_ (i := 23) (N := some 169) (v := ?_) (a' := ?_) (bz_ 25 16777215) rfl rfl (any_of HT_.out (by kernel_rfl)) (fun _ _ _ h => h) (Or.inl ⟨by rfl, ?_⟩) ?_ ?_
                       rotate_left; intro w'; go_simp; with_reducible rfl; rotate_left; simp only [Act.put, s1_, s2_, s3_, i64_w, i32_w]; rfl
                       refine pure_ (i := 24) (N := some 170) (v := ?_) (a' := ?_) (bz_ 25 33554431) rfl rfl (any_of HT_.out (by kernel_rfl)) (fun _ _ _ h => h) (Or.inl ⟨by rfl, ?_⟩) ?_ ?_
                       rotate_left; intro w'; go_simp; with_reducible rfl; rotate_left; simp only [Act.put, s1_, s2_, s3_, i64_w, i32_w]; rfl
                       refine done_ (done_of HT_.out (by kernel_rfl)) ?_
                       try go_wp2
                       go_ret
                       exact ⟨by first | rfl | (simp [errW_none, errW_some] <;> rfl) | (simp only [← hji85]; first | rfl | (simp [errW_none, errW_some] <;> rfl)) | (simp [*, errW_none, errW_some] <;> rfl), by repeat (first | (with_reducible first | exact HB.out | apply below_alloc | apply pw_below_drewN | apply below_drew1) | exact HB.out)⟩
                     ·rw [if_neg c87] at H
                      exact absurd H (by simp)
                    ·rw [if_neg c86] at H
                     exact absurd H (by simp)
                   ·rw [if_neg c84] at H
                    have c84b0 : (((rd_T25 t301 x100_3).f0) == 4) = false := beq_eq_false_iff_ne.mpr c84
                    have c84b1 : (((rd_T25 t301 x100_3).f0) != 4) = true := bne_iff_ne.mpr c84
                    obtain rfl := Option.some.inj H
                    try go_wp2
                    have n0_ := Aside0.mk (Kd.R_drew HO_12.out)
                    have n1_ := Aside0.mk (Kd.R_drew HO_15.out)
                    have n2_ := Aside0.mk (below_drew1 HB.out)
                    clear HO_12
                    clear HO_15
                    clear HB
                    have HO_12 := n0_
                    have HO_15 := n1_
                    have HB := n2_
                    clear n0_ n1_ n2_
                    obtain ⟨Ao95, co95, eo95⟩ := Kd.R_slice HO_12.out
                    (first | subst eo95 | (injection eo95 with f1_ f2_ f3_; have f4_ := f1_.symm; have f5_ := f3_.symm; clear f1_ f2_ f3_; subst f4_; subst f5_))
                    have p321 : 0 ≤ (x100_3 : Int) := of_decide_eq_true (by first | (with_reducible assumption) | assumption)
                    have q321 : x100_3 < (t301.length : Int) := of_decide_eq_true (by first | (with_reducible assumption) | assumption)
                    obtain ⟨ad321, e321, hx321_0, hx321_1, hx321_2⟩ := at_T25 (Kd.R_reads' HO_12.out).2.2 x100_3 p321 q321
                    cases e321
                    replace p321 := eq_true p321
                    replace q321 := eq_true q321
                    refine start_ (n := 25) (S := fun w' => w'.cell? (ad321.add ((x100_3).toNat * 3)) = some (.int .i64 ((rd_T25 t301 x100_3).f0)) ∧ w'.cell? ⟨(ad321.add ((x100_3).toNat * 3)).block, (ad321.add ((x100_3).toNat * 3)).off + 1, none⟩ = some (.string ((rd_T25 t301 x100_3).f1)) ∧ w'.cell? ⟨(ad321.add ((x100_3).toNat * 3)).block, (ad321.add ((x100_3).toNat * 3)).off + 2, none⟩ = some (.int .i64 ((rd_T25 t301 x100_3).f2))) (ds := []) #[false, false, false, false, false, false, false, false, false, false, false, false, false, false, false, false, false, false, false, false, false, false, false, false, false] (by kernel_rfl) rfl rfl ⟨hx321_0, hx321_1, hx321_2⟩ (fun hHeld => ?_); refine with_tabW gonglaw14_LexBlanks.tab26 gonglaw14_LexBlanks.bits26 (fun HT_ HW_ => ?_)
                    generalize wc.drew = w94 at HO_12 HO_15 HB hx321_0 hx321_1 hx321_2 hHeld ⊢
                    refine pure_ (i := 0) (N := some 146) (v := ?_) (a' := ?_) (bz_ 25 1) rfl rfl (any_of HT_.out (by kernel_rfl)) (fun _ _ _ h => h) (Or.inl ⟨by rfl, ?_⟩) ?_ ?_
                    rotate_left; intro w'; go_simp; with_reducible rfl; rotate_left; simp only [Act.put, s1_, s2_, s3_, i64_w, i32_w]; rfl
                    refine pure_ (i := 1) (N := some 147) (v := ?_) (a' := ?_) (bz_ 25 3) rfl rfl (any_of HT_.out (by kernel_rfl)) (fun _ _ _ h => h) (Or.inl ⟨by rfl, ?_⟩) ?_ ?_
                    rotate_left; intro w'; go_simp; with_reducible rfl; rotate_left; simp only [Act.put, s1_, s2_, s3_, i64_w, i32_w]; rfl
                    refine pure_ (i := 2) (N := some 148) (v := ?_) (a' := ?_) (bz_ 25 7) rfl rfl (any_of HT_.out (by kernel_rfl)) (fun _ _ _ h => h) (Or.inl ⟨by rfl, ?_⟩) ?_ ?_
                    rotate_left; intro w'; go_simp; with_reducible rfl; rotate_left; simp only [Act.put, s1_, s2_, s3_, i64_w, i32_w]; rfl
                    refine pure_ (i := 3) (N := some 149) (v := ?_) (a' := ?_) (bz_ 25 15) rfl rfl (any_of HT_.out (by kernel_rfl)) (fun _ _ _ h => h) (Or.inl ⟨by rfl, ?_⟩) ?_ ?_
                    rotate_left; intro w'; go_simp; with_reducible rfl; rotate_left; simp only [Act.put, s1_, s2_, s3_, i64_w, i32_w]; rfl
                    refine pure_ (i := 4) (N := some 150) (v := ?_) (a' := ?_) (bz_ 25 31) rfl rfl (any_of HT_.out (by kernel_rfl)) (fun _ _ _ h => h) (Or.inl ⟨by rfl, ?_⟩) ?_ ?_
                    rotate_left; intro w'; go_simp; with_reducible rfl; rotate_left; simp only [Act.put, s1_, s2_, s3_, i64_w, i32_w]; rfl
                    refine pure_ (i := 5) (N := some 151) (v := ?_) (a' := ?_) (bz_ 25 63) rfl rfl (any_of HT_.out (by kernel_rfl)) (fun _ _ _ h => h) (Or.inl ⟨by rfl, ?_⟩) ?_ ?_
                    rotate_left; intro w'; go_simp; with_reducible rfl; rotate_left; simp only [Act.put, s1_, s2_, s3_, i64_w, i32_w]; rfl
                    refine pure_ (i := 6) (N := some 152) (v := ?_) (a' := ?_) (bz_ 25 127) rfl rfl (any_of HT_.out (by kernel_rfl)) (fun _ _ _ h => h) (Or.inl ⟨by rfl, ?_⟩) ?_ ?_
                    rotate_left; intro w'; go_simp; with_reducible rfl; rotate_left; simp only [Act.put, s1_, s2_, s3_, i64_w, i32_w]; rfl
                    refine pure_ (i := 7) (N := some 153) (v := ?_) (a' := ?_) (bz_ 25 255) rfl rfl (any_of HT_.out (by kernel_rfl)) (fun _ _ _ h => h) (Or.inl ⟨by rfl, ?_⟩) ?_ ?_
                    rotate_left; intro w'; go_simp; with_reducible rfl; rotate_left; simp only [Act.put, s1_, s2_, s3_, i64_w, i32_w]; rfl
                    refine take_ (i := 8) (N := some 154) (v := ?_) (a' := ?_) #[true, true, true, true, true, true, true, true, true, false, false, false, false, false, false, false, false, false, false, false, false, false, false, false, false] rfl rfl (take_ofW HT_.out HW_.out (by kernel_rfl)) (fun _ _ _ h => h) (Or.inl ⟨by rfl, ?_⟩) hHeld ?_ ?_
                    rotate_left
                    ·rintro w' ⟨s0, s1, s2⟩
                     go_simp
                     with_reducible rfl
                    rotate_left
                    ·simp only [Act.put, s1_, s2_, s3_, i64_w, i32_w]; rfl
                    refine pure_ (i := 9) (N := some 155) (v := ?_) (a' := ?_) (bz_ 25 1023) rfl rfl (any_of HT_.out (by kernel_rfl)) (fun _ _ _ h => h) (Or.inl ⟨by rfl, ?_⟩) ?_ ?_
                    rotate_left; intro w'; go_simp; with_reducible rfl; rotate_left; simp only [Act.put, s1_, s2_, s3_, i64_w, i32_w]; rfl
                    refine pure_ (i := 10) (N := some 156) (v := ?_) (a' := ?_) (bz_ 25 2047) rfl rfl (any_of HT_.out (by kernel_rfl)) (fun _ _ _ h => h) (Or.inl ⟨by rfl, ?_⟩) ?_ ?_
                    rotate_left; intro w'; go_simp; with_reducible rfl; rotate_left; simp only [Act.put, s1_, s2_, s3_, i64_w, i32_w]; rfl
                    refine pure_ (i := 11) (N := some 157) (v := undef) (a' := ?_) (bz_ 25 4095) rfl rfl (any_of HT_.out (by kernel_rfl)) (fun _ _ _ h => h) (Or.inr ⟨by rfl, rfl⟩) ?_ ?_
                    rotate_left
                    ·simp only [Act.put, s1_, s2_, s3_, i64_w, i32_w]; rfl
                    refine pure_ (i := 12) (N := some 158) (v := undef) (a' := ?_) (bz_ 25 8191) rfl rfl (any_of HT_.out (by kernel_rfl)) (fun _ _ _ h => h) (Or.inr ⟨by rfl, rfl⟩) ?_ ?_
                    rotate_left
                    ·simp only [Act.put, s1_, s2_, s3_, i64_w, i32_w]; rfl
                    refine pure_ (i := 13) (N := some 159) (v := undef) (a' := ?_) (bz_ 25 16383) rfl rfl (any_of HT_.out (by kernel_rfl)) (fun _ _ _ h => h) (Or.inr ⟨by rfl, rfl⟩) ?_ ?_
                    rotate_left
                    ·simp only [Act.put, s1_, s2_, s3_, i64_w, i32_w]; rfl
                    refine pure_ (i := 14) (N := some 160) (v := undef) (a' := ?_) (bz_ 25 32767) rfl rfl (any_of HT_.out (by kernel_rfl)) (fun _ _ _ h => h) (Or.inr ⟨by rfl, rfl⟩) ?_ ?_
                    rotate_left
                    ·simp only [Act.put, s1_, s2_, s3_, i64_w, i32_w]; rfl
                    refine pure_ (i := 15) (N := some 161) (v := undef) (a' := ?_) (bz_ 25 65535) rfl rfl (any_of HT_.out (by kernel_rfl)) (fun _ _ _ h => h) (Or.inr ⟨by rfl, rfl⟩) ?_ ?_
                    rotate_left
                    ·simp only [Act.put, s1_, s2_, s3_, i64_w, i32_w]; rfl
                    refine pure_ (i := 16) (N := some 162) (v := undef) (a' := ?_) (bz_ 25 131071) rfl rfl (any_of HT_.out (by kernel_rfl)) (fun _ _ _ h => h) (Or.inr ⟨by rfl, rfl⟩) ?_ ?_
                    rotate_left
                    ·simp only [Act.put, s1_, s2_, s3_, i64_w, i32_w]; rfl
                    refine pure_ (i := 17) (N := some 163) (v := undef) (a' := ?_) (bz_ 25 262143) rfl rfl (any_of HT_.out (by kernel_rfl)) (fun _ _ _ h => h) (Or.inr ⟨by rfl, rfl⟩) ?_ ?_
                    rotate_left
                    ·simp only [Act.put, s1_, s2_, s3_, i64_w, i32_w]; rfl
                    refine pure_ (i := 18) (N := some 164) (v := undef) (a' := ?_) (bz_ 25 524287) rfl rfl (any_of HT_.out (by kernel_rfl)) (fun _ _ _ h => h) (Or.inr ⟨by rfl, rfl⟩) ?_ ?_
                    rotate_left
                    ·simp only [Act.put, s1_, s2_, s3_, i64_w, i32_w]; rfl
                    refine pure_ (i := 19) (N := some 165) (v := undef) (a' := ?_) (bz_ 25 1048575) rfl rfl (any_of HT_.out (by kernel_rfl)) (fun _ _ _ h => h) (Or.inr ⟨by rfl, rfl⟩) ?_ ?_
                    rotate_left
                    ·simp only [Act.put, s1_, s2_, s3_, i64_w, i32_w]; rfl
                    refine pure_ (i := 20) (N := some 166) (v := undef) (a' := ?_) (bz_ 25 2097151) rfl rfl (any_of HT_.out (by kernel_rfl)) (fun _ _ _ h => h) (Or.inr ⟨by rfl, rfl⟩) ?_ ?_
                    rotate_left
                    ·simp only [Act.put, s1_, s2_, s3_, i64_w, i32_w]; rfl
                    refine pure_ (i := 21) (N := some 167) (v := undef) (a' := ?_) (bz_ 25 4194303) rfl rfl (any_of HT_.out (by kernel_rfl)) (fun _ _ _ h => h) (Or.inr ⟨by rfl, rfl⟩) ?_ ?_
                    rotate_left
                    ·simp only [Act.put, s1_, s2_, s3_, i64_w, i32_w]; rfl
                    refine pure_ (i := 22) (N := some 168) (v := undef) (a' := ?_) (bz_ 25 8388607) rfl rfl (any_of HT_.out (by kernel_rfl)) (fun _ _ _ h => h) (Or.inr ⟨by rfl, rfl⟩) ?_ ?_
                    rotate_left
                    ·simp only [Act.put, s1_, s2_, s3_, i64_w, i32_w]; rfl
                    refine pure_ (i := 23) (N := some 169) (v := ?_) (a' := ?_) (bz_ 25 16777215) rfl rfl (any_of HT_.out (by kernel_rfl)) (fun _ _ _ h => h) (Or.inl ⟨by rfl, ?_⟩) ?_ ?_
                    rotate_left; intro w'; go_simp; with_reducible rfl; rotate_left; simp only [Act.put, s1_, s2_, s3_, i64_w, i32_w]; rfl
                    refine pure_ (i := 24) (N := some 170) (v := ?_) (a' := ?_) (bz_ 25 33554431) rfl rfl (any_of HT_.out (by kernel_rfl)) (fun _ _ _ h => h) (Or.inl ⟨by rfl, ?_⟩) ?_ ?_
                    rotate_left; intro w'; go_simp; with_reducible rfl; rotate_left; simp only [Act.put, s1_, s2_, s3_, i64_w, i32_w]; rfl
                    refine done_ (done_of HT_.out (by kernel_rfl)) ?_
                    try go_wp2
                    go_ret
                    exact ⟨by first | rfl | (simp [errW_none, errW_some] <;> rfl) | (simp [*, errW_none, errW_some] <;> rfl), by repeat (first | (with_reducible first | exact HB.out | apply below_alloc | apply pw_below_drewN | apply below_drew1) | exact HB.out)⟩
                  ·rw [if_neg c83] at H
                   exact absurd H (by simp)
                 ·rw [if_neg c82] at H
                  exact absurd H (by simp)
                ·rw [if_neg c81] at H
                 have c81b0 : ((Int.tmod x100_3 2) == 0) = false := beq_eq_false_iff_ne.mpr c81
                 have c81b1 : ((Int.tmod x100_3 2) != 0) = true := bne_iff_ne.mpr c81
                 have H' := Aside0.mk H
                 clear H
                 try go_wp2
                 have n0_ := Aside0.mk (Kd.R_drew HO_12.out)
                 have n1_ := Aside0.mk (Kd.R_drew HO_15.out)
                 have n2_ := Aside0.mk (below_drew1 HB.out)
                 clear HO_12
                 clear HO_15
                 clear HB
                 have HO_12 := n0_
                 have HO_15 := n1_
                 have HB := n2_
                 clear n0_ n1_ n2_
                 refine start_ (n := 25) (S := fun w' => True) (ds := []) #[false, false, false, false, false, false, false, false, false, false, false, false, false, false, false, false, false, false, false, false, false, false, false, false, false] (by kernel_rfl) rfl rfl trivial (fun hHeld => ?_); refine with_tabW gonglaw14_LexBlanks.tab26 gonglaw14_LexBlanks.bits26 (fun HT_ HW_ => ?_)
                 generalize wc.drew = w96 at HO_12 HO_15 HB hHeld ⊢
                 refine pure_ (i := 0) (N := some 146) (v := ?_) (a' := ?_) (bz_ 25 1) rfl rfl (any_of HT_.out (by kernel_rfl)) (fun _ _ _ h => h) (Or.inl ⟨by rfl, ?_⟩) ?_ ?_
                 rotate_left; intro w'; go_simp; with_reducible rfl; rotate_left; simp only [Act.put, s1_, s2_, s3_, i64_w, i32_w]; rfl
                 refine pure_ (i := 1) (N := some 147) (v := ?_) (a' := ?_) (bz_ 25 3) rfl rfl (any_of HT_.out (by kernel_rfl)) (fun _ _ _ h => h) (Or.inl ⟨by rfl, ?_⟩) ?_ ?_
                 rotate_left; intro w'; go_simp; with_reducible rfl; rotate_left; simp only [Act.put, s1_, s2_, s3_, i64_w, i32_w]; rfl
                 refine pure_ (i := 2) (N := some 148) (v := ?_) (a' := ?_) (bz_ 25 7) rfl rfl (any_of HT_.out (by kernel_rfl)) (fun _ _ _ h => h) (Or.inl ⟨by rfl, ?_⟩) ?_ ?_
                 rotate_left; intro w'; go_simp; with_reducible rfl; rotate_left; simp only [Act.put, s1_, s2_, s3_, i64_w, i32_w]; rfl
                 refine pure_ (i := 3) (N := some 149) (v := ?_) (a' := ?_) (bz_ 25 15) rfl rfl (any_of HT_.out (by kernel_rfl)) (fun _ _ _ h => h) (Or.inl ⟨by rfl, ?_⟩) ?_ ?_
                 rotate_left; intro w'; go_simp; with_reducible rfl; rotate_left; simp only [Act.put, s1_, s2_, s3_, i64_w, i32_w]; rfl
                 refine pure_ (i := 4) (N := some 150) (v := undef) (a' := ?_) (bz_ 25 31) rfl rfl (any_of HT_.out (by kernel_rfl)) (fun _ _ _ h => h) (Or.inr ⟨by rfl, rfl⟩) ?_ ?_
                 rotate_left
                 ·simp only [Act.put, s1_, s2_, s3_, i64_w, i32_w]; rfl
                 refine pure_ (i := 5) (N := some 151) (v := undef) (a' := ?_) (bz_ 25 63) rfl rfl (any_of HT_.out (by kernel_rfl)) (fun _ _ _ h => h) (Or.inr ⟨by rfl, rfl⟩) ?_ ?_
                 rotate_left
                 ·simp only [Act.put, s1_, s2_, s3_, i64_w, i32_w]; rfl
                 refine pure_ (i := 6) (N := some 152) (v := undef) (a' := ?_) (bz_ 25 127) rfl rfl (any_of HT_.out (by kernel_rfl)) (fun _ _ _ h => h) (Or.inr ⟨by rfl, rfl⟩) ?_ ?_
                 rotate_left
                 ·simp only [Act.put, s1_, s2_, s3_, i64_w, i32_w]; rfl
                 refine pure_ (i := 7) (N := some 153) (v := undef) (a' := ?_) (bz_ 25 255) rfl rfl (any_of HT_.out (by kernel_rfl)) (fun _ _ _ h => h) (Or.inr ⟨by rfl, rfl⟩) ?_ ?_
                 rotate_left
                 ·simp only [Act.put, s1_, s2_, s3_, i64_w, i32_w]; rfl
                 refine pure_ (i := 8) (N := some 154) (v := undef) (a' := ?_) (bz_ 25 511) rfl rfl (any_of HT_.out (by kernel_rfl)) (fun _ _ _ h => h) (Or.inr ⟨by rfl, rfl⟩) ?_ ?_
                 rotate_left
                 ·simp only [Act.put, s1_, s2_, s3_, i64_w, i32_w]; rfl
                 refine pure_ (i := 9) (N := some 155) (v := undef) (a' := ?_) (bz_ 25 1023) rfl rfl (any_of HT_.out (by kernel_rfl)) (fun _ _ _ h => h) (Or.inr ⟨by rfl, rfl⟩) ?_ ?_
                 rotate_left
                 ·simp only [Act.put, s1_, s2_, s3_, i64_w, i32_w]; rfl
                 refine pure_ (i := 10) (N := some 156) (v := undef) (a' := ?_) (bz_ 25 2047) rfl rfl (any_of HT_.out (by kernel_rfl)) (fun _ _ _ h => h) (Or.inr ⟨by rfl, rfl⟩) ?_ ?_
                 rotate_left
                 ·simp only [Act.put, s1_, s2_, s3_, i64_w, i32_w]; rfl
                 refine pure_ (i := 11) (N := some 157) (v := undef) (a' := ?_) (bz_ 25 4095) rfl rfl (any_of HT_.out (by kernel_rfl)) (fun _ _ _ h => h) (Or.inr ⟨by rfl, rfl⟩) ?_ ?_
                 rotate_left
                 ·simp only [Act.put, s1_, s2_, s3_, i64_w, i32_w]; rfl
                 refine pure_ (i := 12) (N := some 158) (v := undef) (a' := ?_) (bz_ 25 8191) rfl rfl (any_of HT_.out (by kernel_rfl)) (fun _ _ _ h => h) (Or.inr ⟨by rfl, rfl⟩) ?_ ?_
                 rotate_left
                 ·simp only [Act.put, s1_, s2_, s3_, i64_w, i32_w]; rfl
                 refine pure_ (i := 13) (N := some 159) (v := undef) (a' := ?_) (bz_ 25 16383) rfl rfl (any_of HT_.out (by kernel_rfl)) (fun _ _ _ h => h) (Or.inr ⟨by rfl, rfl⟩) ?_ ?_
                 rotate_left
                 ·simp only [Act.put, s1_, s2_, s3_, i64_w, i32_w]; rfl
                 refine pure_ (i := 14) (N := some 160) (v := undef) (a' := ?_) (bz_ 25 32767) rfl rfl (any_of HT_.out (by kernel_rfl)) (fun _ _ _ h => h) (Or.inr ⟨by rfl, rfl⟩) ?_ ?_
                 rotate_left
                 ·simp only [Act.put, s1_, s2_, s3_, i64_w, i32_w]; rfl
                 refine pure_ (i := 15) (N := some 161) (v := undef) (a' := ?_) (bz_ 25 65535) rfl rfl (any_of HT_.out (by kernel_rfl)) (fun _ _ _ h => h) (Or.inr ⟨by rfl, rfl⟩) ?_ ?_
                 rotate_left
                 ·simp only [Act.put, s1_, s2_, s3_, i64_w, i32_w]; rfl
                 refine pure_ (i := 16) (N := some 162) (v := undef) (a' := ?_) (bz_ 25 131071) rfl rfl (any_of HT_.out (by kernel_rfl)) (fun _ _ _ h => h) (Or.inr ⟨by rfl, rfl⟩) ?_ ?_
                 rotate_left
                 ·simp only [Act.put, s1_, s2_, s3_, i64_w, i32_w]; rfl
                 refine pure_ (i := 17) (N := some 163) (v := undef) (a' := ?_) (bz_ 25 262143) rfl rfl (any_of HT_.out (by kernel_rfl)) (fun _ _ _ h => h) (Or.inr ⟨by rfl, rfl⟩) ?_ ?_
                 rotate_left
                 ·simp only [Act.put, s1_, s2_, s3_, i64_w, i32_w]; rfl
                 refine pure_ (i := 18) (N := some 164) (v := undef) (a' := ?_) (bz_ 25 524287) rfl rfl (any_of HT_.out (by kernel_rfl)) (fun _ _ _ h => h) (Or.inr ⟨by rfl, rfl⟩) ?_ ?_
                 rotate_left
                 ·simp only [Act.put, s1_, s2_, s3_, i64_w, i32_w]; rfl
                 refine pure_ (i := 19) (N := some 165) (v := undef) (a' := ?_) (bz_ 25 1048575) rfl rfl (any_of HT_.out (by kernel_rfl)) (fun _ _ _ h => h) (Or.inr ⟨by rfl, rfl⟩) ?_ ?_
                 rotate_left
                 ·simp only [Act.put, s1_, s2_, s3_, i64_w, i32_w]; rfl
                 refine pure_ (i := 20) (N := some 166) (v := undef) (a' := ?_) (bz_ 25 2097151) rfl rfl (any_of HT_.out (by kernel_rfl)) (fun _ _ _ h => h) (Or.inr ⟨by rfl, rfl⟩) ?_ ?_
                 rotate_left
                 ·simp only [Act.put, s1_, s2_, s3_, i64_w, i32_w]; rfl
                 refine pure_ (i := 21) (N := some 167) (v := undef) (a' := ?_) (bz_ 25 4194303) rfl rfl (any_of HT_.out (by kernel_rfl)) (fun _ _ _ h => h) (Or.inr ⟨by rfl, rfl⟩) ?_ ?_
                 rotate_left
                 ·simp only [Act.put, s1_, s2_, s3_, i64_w, i32_w]; rfl
                 refine pure_ (i := 22) (N := some 168) (v := undef) (a' := ?_) (bz_ 25 8388607) rfl rfl (any_of HT_.out (by kernel_rfl)) (fun _ _ _ h => h) (Or.inr ⟨by rfl, rfl⟩) ?_ ?_
                 rotate_left
                 ·simp only [Act.put, s1_, s2_, s3_, i64_w, i32_w]; rfl
                 refine pure_ (i := 23) (N := some 169) (v := undef) (a' := ?_) (bz_ 25 16777215) rfl rfl (any_of HT_.out (by kernel_rfl)) (fun _ _ _ h => h) (Or.inr ⟨by rfl, rfl⟩) ?_ ?_
                 rotate_left
                 ·simp only [Act.put, s1_, s2_, s3_, i64_w, i32_w]; rfl
                 refine pure_ (i := 24) (N := some 170) (v := ?_) (a' := ?_) (bz_ 25 33554431) rfl rfl (any_of HT_.out (by kernel_rfl)) (fun _ _ _ h => h) (Or.inl ⟨by rfl, ?_⟩) ?_ ?_
                 rotate_left; intro w'; go_simp; with_reducible rfl; rotate_left; simp only [Act.put, s1_, s2_, s3_, i64_w, i32_w]; rfl
                 refine done_ (done_of HT_.out (by kernel_rfl)) ?_
                 try go_wp2
                 go_roundg kj52
                 case measure => have := HK1.out; have := HJ38.out; have := HK3.out; have := HJ52.out; omega
                 case rel => exact ⟨(wrap64 (x100_3 + 1)), (by first | rfl | (simp; done) | (simp [*]; done)), H', ⟨by have := HK1.out; have := HJ38.out; have := HK3.out; have := HJ52.out; omega⟩, ⟨by (with_reducible repeat (first | apply Kd.R_alloc | apply Kd.R_drewN | apply Kd.R_drew)); exact HO_12.out⟩, ⟨by (with_reducible repeat (first | apply Kd.R_alloc | apply Kd.R_drewN | apply Kd.R_drew)); exact HO_15.out⟩, ⟨by repeat (first | (with_reducible first | exact HB.out | apply below_alloc | apply pw_below_drewN | apply below_drew1) | exact HB.out)⟩⟩
            ·rw [if_neg c52] at H
             have c52b0 : decide (x100_3 < (t306.length : Int)) = false := decide_eq_false c52
             clear c52
             obtain rfl := Option.some.inj H
             go_wp2
             go_ret
             exact ⟨by first | rfl | (simp [errW_none, errW_some] <;> rfl) | (simp [*, errW_none, errW_some] <;> rfl), by repeat (first | (with_reducible first | exact HB.out | apply below_alloc | apply pw_below_drewN | apply below_drew1) | exact HB.out)⟩
   ·rw [if_neg c7] at H
    exact absurd H (by simp)
 ·replace c4 := Bool.eq_false_iff.mpr c4
  subst c4
  have H1 : (some false) = some r := by rw [if_neg (show ¬ (false = true) by decide)] at H; exact H
  clear H
  have H := H1
  clear H1
  obtain rfl := Option.some.inj H
  go_enter Tryd.func6, Tryd.ntmps6
  go_wp2_with (first | ((with_reducible refine gate_callee (f := 7) rfl ?_); refine goesL_ (some 19) rfl rfl Tryd.func7 (by kernel_rfl) rfl #[] rfl (by (try simp only [List.map_toArray, List.map_cons, List.map_nil]); first | done | rfl | (simp only [List.length_drop, List.length_take]; rfl)) ?_; (with_reducible refine (gonglaw14_works.calls k  false _ A3.out).mono ?_); rintro e w97 ⟨rfl, hb⟩; refine ⟨_, rfl, ?_⟩; have n0_ := Aside0.mk (below_step (by repeat (first | (with_reducible first | exact HB.out | apply below_alloc | apply pw_below_drewN | apply below_drew1) | exact HB.out)) hb); clear HB; have HB := n0_; clear n0_; (try clear hb); (try clear hb2); (try clear hk); (try clear hi)))
  go_ret
  exact ⟨by first | rfl | (simp [errW_none, errW_some] <;> rfl) | (simp [*, errW_none, errW_some] <;> rfl), by repeat (first | (with_reducible first | exact HB.out | apply below_alloc | apply pw_below_drewN | apply below_drew1) | exact HB.out)⟩

end Go.Proofs.YtnghebedingjaaaDoor.Px
