/- TicketBack: for every input that the row speaks of the law returns true, and what came in reads as it did; the variables that it lists are tied to the program's text (the card). Condition: each listed variable reads as the program's own initialisers lay it. -/
import Derived.Test.YtipenplplmdclaaDoorZTicketBackD
import Derived.Laws.Strings
import Derived.DataReads
import Derived.DataElems
import Derived.SizedLaws
import Derived.ChangeShapes
import Derived.ChangeMaps
import Derived.Test.YtipenplplmdclaaDoorRows
import Derived.LaidMore
import Derived.Stop.Joined
import Derived.Stop.LaidErr
import Derived.ProofKit
import Derived.OpenShut
import Derived.ShutString
import Derived.ChangeOld
import Derived.SevenTiedAt
import Derived.Test.YtipenplplmdclaaDoorTie
import Derived.Test.YtipenplplmdclaaDoorCards
set_option linter.unusedVariables false
set_option linter.unusedSimpArgs false
section
namespace Go.Proofs.YtipenplplmdclaaDoor.Px
open Go.RowKit Go.Proofs.YtipenplplmdclaaDoorW.PrintWords Go.Proofs.YtipenplplmdclaaDoorW.PrintLast Go.Proofs.YtipenplplmdclaaDoorW.PrintMore
attribute [local go_sem] max2_int min2_int max_two min_two max_three min_three max_four min_four
set_option linter.unusedVariables false
set_option linter.unusedSimpArgs false
attribute [local go_sem high] eqA25 eqA27
mutual
def gonglaw23_TicketBack.j0 : Nat → Int → Bool → Int → Int → Int → ByteArray → ByteArray → ByteArray → Int → ByteArray → Int → Int → Int → Bool → ByteArray → Int → Int → Int → ByteArray → ByteArray → ByteArray → Int → ByteArray → Int → Int → Int → Bool → ByteArray → Option (Bool)
  | 0, _, _, _, _, _, _, _, _, _, _, _, _, _, _, _, _, _, _, _, _, _, _, _, _, _, _, _, _ => none
  | k + 1, x2, x32, x556000, x556001, x556002, x556003, x556004, x556005, x556006, x556007, x556008, x556009, x556010, x556011, x556012, x557000, x557001, x557002, x557003, x557004, x557005, x557006, x557007, x557008, x557009, x557010, x557011, x557012 => if x32 = true then (some true) else ((ticket_Encode.f k x556000 x556001 x556002 x556003 x556004 x556005 x556006 x556007 x556008 x556009 x556010 x556011 x556012).bind fun bt560 => (if bt560.2 = 0 then ((ticket_Decode.f k bt560.1).bind fun bt562 => ((ticket_Acked.f k bt560.1).bind fun bt577 => (if bt562.2.2.2.2.2.2.2.2.2.2.2.2.2 = 0 then (if (!(bt562.1 == x556000) || (!(bt562.2.1 == x556001) || ((!(bt562.2.2.1 == x556002) || ((!(bt562.2.2.2.1.toList == x556003.toList) || (!(bt562.2.2.2.2.1.toList == x556004.toList) || (!(bt562.2.2.2.2.2.1.toList == x556005.toList) || (!(bt562.2.2.2.2.2.2.1 == x556006) || (!(bt562.2.2.2.2.2.2.2.1.toList == x556007.toList)))))) || (!(bt562.2.2.2.2.2.2.2.2.1 == x556008) || (!(bt562.2.2.2.2.2.2.2.2.2.1 == x556009) || (!(bt562.2.2.2.2.2.2.2.2.2.2.1 == x556010) || (!(bt562.2.2.2.2.2.2.2.2.2.2.2.1 == x556011) || (!(bt562.2.2.2.2.2.2.2.2.2.2.2.2.1.toList == x556012.toList))))))))))) = true then (gonglaw23_TicketBack.j1 k x2 true x556000 x556001 x556002 x556003 x556004 x556005 x556006 x556007 x556008 x556009 x556010 x556011 x556012 x557000 x557001 x557002 x557003 x557004 x557005 x557006 x557007 x557008 x557009 x557010 x557011 x557012) else (gonglaw23_TicketBack.j1 k x2 (bt577.2 != 230) x556000 x556001 x556002 x556003 x556004 x556005 x556006 x556007 x556008 x556009 x556010 x556011 x556012 x557000 x557001 x557002 x557003 x557004 x557005 x557006 x557007 x557008 x557009 x557010 x557011 x557012)) else (gonglaw23_TicketBack.j1 k x2 true x556000 x556001 x556002 x556003 x556004 x556005 x556006 x556007 x556008 x556009 x556010 x556011 x556012 x557000 x557001 x557002 x557003 x557004 x557005 x557006 x557007 x557008 x557009 x557010 x557011 x557012)))) else (gonglaw23_TicketBack.j2 k x2)))
def gonglaw23_TicketBack.j2 : Nat → Int → Option (Bool)
  | 0, _ => none
  | k + 1, x2 => (gongbook_Below.f x2 1152921504606846976).bind fun t583 => ((ticket_Ack.f k (wrap64 (1 + t583))).bind fun bt584 => ((ticket_Acked.f k bt584.1).bind fun bt586 => ((ticket_Decode.f k bt584.1).bind fun bt588 => (if bt584.2 = 0 then (if bt586.2 = 0 then (if bt586.1 = (wrap64 (1 + t583)) then (some (bt588.2.2.2.2.2.2.2.2.2.2.2.2.2 == 230)) else (some false)) else (some false)) else (some false)))))
def gonglaw23_TicketBack.j1 : Nat → Int → Bool → Int → Int → Int → ByteArray → ByteArray → ByteArray → Int → ByteArray → Int → Int → Int → Bool → ByteArray → Int → Int → Int → ByteArray → ByteArray → ByteArray → Int → ByteArray → Int → Int → Int → Bool → ByteArray → Option (Bool)
  | 0, _, _, _, _, _, _, _, _, _, _, _, _, _, _, _, _, _, _, _, _, _, _, _, _, _, _, _, _ => none
  | k + 1, x2, x60, x556000, x556001, x556002, x556003, x556004, x556005, x556006, x556007, x556008, x556009, x556010, x556011, x556012, x557000, x557001, x557002, x557003, x557004, x557005, x557006, x557007, x557008, x557009, x557010, x557011, x557012 => if x60 = true then (some false) else ((ticket_Payload.f k x556000 x556001 x556002 x556003 x556004 x556005 x556006 x556007 x556008 x556009 x556010 x556011 x556012).bind fun bt579 => ((ticket_Payload.f k x557000 x557001 x557002 x557003 x557004 x557005 x557006 x557007 x557008 x557009 x557010 x557011 x557012).bind fun bt581 => (if bt579.2 = 0 then (if bt581.2 = 0 then (if x556001 = x557001 then (if ((bt579.1.toList == bt581.1.toList) != (x556002 == x557002 && ((x556003.toList == x557003.toList && (x556004.toList == x557004.toList && (x556005.toList == x557005.toList && (x556006 == x557006 && (x556007.toList == x557007.toList))))) && (x556008 == x557008 && (x556009 == x557009 && (x556010 == x557010 && (x556011 == x557011 && (x556012.toList == x557012.toList)))))))) = true then (some false) else (gonglaw23_TicketBack.j2 k x2)) else (if ((bt579.1.toList == bt581.1.toList) != false) = true then (some false) else (gonglaw23_TicketBack.j2 k x2))) else (gonglaw23_TicketBack.j2 k x2)) else (some false))))
end
def gonglaw23_TicketBack.f (k : Nat) (a0_0 : Int) (a0_1 : Int) (a0_2 : Int) (a0_3 : ByteArray) (a0_4 : ByteArray) (a0_5 : ByteArray) (a0_6 : Int) (a0_7 : ByteArray) (a0_8 : Int) (a0_9 : Int) (a0_10 : Int) (a0_11 : Bool) (a0_12 : ByteArray) (a1_0 : Int) (a1_1 : Int) (a1_2 : Int) (a1_3 : ByteArray) (a1_4 : ByteArray) (a1_5 : ByteArray) (a1_6 : Int) (a1_7 : ByteArray) (a1_8 : Int) (a1_9 : Int) (a1_10 : Int) (a1_11 : Bool) (a1_12 : ByteArray) (a2 : Int) : Option (Bool) := (gonglaw23_works.f k).bind fun t557 => (if t557 = true then ((gonglaw23_short.f a0_0 a0_1 a0_2 a0_3 a0_4 a0_5 a0_6 a0_7 a0_8 a0_9 a0_10 a0_11 a0_12).bind fun t558 => (if t558 = true then ((gonglaw23_short.f a1_0 a1_1 a1_2 a1_3 a1_4 a1_5 a1_6 a1_7 a1_8 a1_9 a1_10 a1_11 a1_12).bind fun t559 => (gonglaw23_TicketBack.j0 k a2 (!t559) a0_0 a0_1 a0_2 a0_3 a0_4 a0_5 a0_6 a0_7 a0_8 a0_9 a0_10 a0_11 a0_12 a1_0 a1_1 a1_2 a1_3 a1_4 a1_5 a1_6 a1_7 a1_8 a1_9 a1_10 a1_11 a1_12)) else (gonglaw23_TicketBack.j0 k a2 true a0_0 a0_1 a0_2 a0_3 a0_4 a0_5 a0_6 a0_7 a0_8 a0_9 a0_10 a0_11 a0_12 a1_0 a1_1 a1_2 a1_3 a1_4 a1_5 a1_6 a1_7 a1_8 a1_9 a1_10 a1_11 a1_12))) else (some false))
set_option maxHeartbeats 8000000 in
set_option maxRecDepth 100000 in
theorem gonglaw23_TicketBack.calls (k : Nat) (a0_0 : Int) (a0_1 : Int) (a0_2 : Int) (a0_3 : ByteArray) (a0_4 : ByteArray) (a0_5 : ByteArray) (a0_6 : Int) (a0_7 : ByteArray) (a0_8 : Int) (a0_9 : Int) (a0_10 : Int) (a0_11 : Bool) (a0_12 : ByteArray) (a1_0 : Int) (a1_1 : Int) (a1_2 : Int) (a1_3 : ByteArray) (a1_4 : ByteArray) (a1_5 : ByteArray) (a1_6 : Int) (a1_7 : ByteArray) (a1_8 : Int) (a1_9 : Int) (a1_10 : Int) (a1_11 : Bool) (a1_12 : ByteArray) (a2 : Int) (r : Bool) (w : World) (HT : Aside0 (TabW w)) (h : gonglaw23_TicketBack.f k a0_0 a0_1 a0_2 a0_3 a0_4 a0_5 a0_6 a0_7 a0_8 a0_9 a0_10 a0_11 a0_12 a1_0 a1_1 a1_2 a1_3 a1_4 a1_5 a1_6 a1_7 a1_8 a1_9 a1_10 a1_11 a1_12 a2 = some r) (hr_ : r = true := by rfl) :
  Calls Tryd.prog 5 #[.agg #[.int .i64 a0_0, .int .i64 a0_1, .int .i64 a0_2, .string a0_3, .string a0_4, .string a0_5, .int .i64 a0_6, .string a0_7, .int .i64 a0_8, .int .i64 a0_9, .int .i64 a0_10, .bool a0_11, .string a0_12], .agg #[.int .i64 a1_0, .int .i64 a1_1, .int .i64 a1_2, .string a1_3, .string a1_4, .string a1_5, .int .i64 a1_6, .string a1_7, .int .i64 a1_8, .int .i64 a1_9, .int .i64 a1_10, .bool a1_11, .string a1_12], .int .i64 a2] w fun e w' => e = .returned (.bool r) ∧ Below w.heap.size w w' := by
 have hu27 := Tryd.underlying27
 have hu25 := Tryd.underlying25
 have HB := Aside0.mk (Below.refl w.heap.size w)
 have H : ((gonglaw23_works.f k).bind fun t557 => (if t557 = true then ((gonglaw23_short.f a0_0 a0_1 a0_2 a0_3 a0_4 a0_5 a0_6 a0_7 a0_8 a0_9 a0_10 a0_11 a0_12).bind fun t558 => (if t558 = true then ((gonglaw23_short.f a1_0 a1_1 a1_2 a1_3 a1_4 a1_5 a1_6 a1_7 a1_8 a1_9 a1_10 a1_11 a1_12).bind fun t559 => (gonglaw23_TicketBack.j0 k a2 (!t559) a0_0 a0_1 a0_2 a0_3 a0_4 a0_5 a0_6 a0_7 a0_8 a0_9 a0_10 a0_11 a0_12 a1_0 a1_1 a1_2 a1_3 a1_4 a1_5 a1_6 a1_7 a1_8 a1_9 a1_10 a1_11 a1_12)) else (gonglaw23_TicketBack.j0 k a2 true a0_0 a0_1 a0_2 a0_3 a0_4 a0_5 a0_6 a0_7 a0_8 a0_9 a0_10 a0_11 a0_12 a1_0 a1_1 a1_2 a1_3 a1_4 a1_5 a1_6 a1_7 a1_8 a1_9 a1_10 a1_11 a1_12))) else (some false))) = some r := h
 clear h
 replace H := Option.bind_eq_some_iff.mp H
 obtain ⟨t557, A40, H⟩ := H
 try dsimp only at H
 have A4 := Aside0.mk A40
 clear A40
 by_cases c5 : t557 = true
 ·subst c5
  have H1 : ((gonglaw23_short.f a0_0 a0_1 a0_2 a0_3 a0_4 a0_5 a0_6 a0_7 a0_8 a0_9 a0_10 a0_11 a0_12).bind fun t558 => (if t558 = true then ((gonglaw23_short.f a1_0 a1_1 a1_2 a1_3 a1_4 a1_5 a1_6 a1_7 a1_8 a1_9 a1_10 a1_11 a1_12).bind fun t559 => (gonglaw23_TicketBack.j0 k a2 (!t559) a0_0 a0_1 a0_2 a0_3 a0_4 a0_5 a0_6 a0_7 a0_8 a0_9 a0_10 a0_11 a0_12 a1_0 a1_1 a1_2 a1_3 a1_4 a1_5 a1_6 a1_7 a1_8 a1_9 a1_10 a1_11 a1_12)) else (gonglaw23_TicketBack.j0 k a2 true a0_0 a0_1 a0_2 a0_3 a0_4 a0_5 a0_6 a0_7 a0_8 a0_9 a0_10 a0_11 a0_12 a1_0 a1_1 a1_2 a1_3 a1_4 a1_5 a1_6 a1_7 a1_8 a1_9 a1_10 a1_11 a1_12))) = some r := by rw [if_pos rfl] at H; exact H
  clear H
  have H := H1
  clear H1
  have HC6 := Aside0.mk H
  clear H
  go_enter Tryd.func5, Tryd.ntmps5
  go_upto_region 3 with (first | ((with_reducible refine gD_ (N := 3) rfl ?_); refine gB_ ?hg (N := 3) ?hd (cs := #[.int .i64 a0_0, .int .i64 a0_1, .int .i64 a0_2, .string a0_3, .string a0_4, .string a0_5, .int .i64 a0_6, .string a0_7, .int .i64 a0_8, .int .i64 a0_9, .int .i64 a0_10, .bool a0_11, .string a0_12]) (t := 27) ?hr ?_; (case hd => rfl); (case hg => rfl); (case hr => first | (go_simp; done) | (go_simp; rfl)); intro gb555 hg w7 hbox hb; have n0_ := Aside0.mk (bT_ (by repeat (first | (with_reducible first | exact HB.out | apply bA_ | apply bN_ | apply bD_) | exact HB.out)) hb); have n1_ := Aside0.mk (hbox); have n2_ := Aside0.mk ((by rw [hg]; exact (bZ_ (by repeat (first | (with_reducible first | exact HB.out | apply bA_ | apply bN_ | apply bD_) | exact HB.out))) : w.heap.size ≤ gb555)); have n3_ := Aside0.mk ((by rw [hg]; exact (bZ_ (by repeat (first | (with_reducible first | exact HB.out | apply bA_ | apply bN_ | apply bD_) | exact HB.out))) : w.heap.size ≤ gb555)); clear HB; have HB := n0_; have BK555 := n1_; have GW555 := n2_; have GE555 := n3_; clear n0_ n1_ n2_ n3_; clear hb hbox hg) | ((with_reducible refine gD_ (N := 4) rfl ?_); refine gB_ ?hg (N := 4) ?hd (cs := #[.int .i64 a1_0, .int .i64 a1_1, .int .i64 a1_2, .string a1_3, .string a1_4, .string a1_5, .int .i64 a1_6, .string a1_7, .int .i64 a1_8, .int .i64 a1_9, .int .i64 a1_10, .bool a1_11, .string a1_12]) (t := 27) ?hr ?_; (case hd => rfl); (case hg => rfl); (case hr => first | (go_simp; done) | (go_simp; rfl)); intro gb556 hg w8 hbox hb; have n0_ := Aside0.mk (kB_ (g := gb555) (o := .cells #[.int .i64 a0_0, .int .i64 a0_1, .int .i64 a0_2, .string a0_3, .string a0_4, .string a0_5, .int .i64 a0_6, .string a0_7, .int .i64 a0_8, .int .i64 a0_9, .int .i64 a0_10, .bool a0_11, .string a0_12] 27 (0, 0)) (by (with_reducible repeat (first | refine kN_ ?_ _ | refine kD_ ?_ | refine kA_ ?_ _)); exact BK555.out) hb); have n1_ := Aside0.mk (bT_ (by repeat (first | (with_reducible first | exact HB.out | apply bA_ | apply bN_ | apply bD_ | refine bS_ ?_ GE555.out) | exact HB.out)) hb); have n2_ := Aside0.mk (hbox); have n3_ := Aside0.mk ((by rw [hg]; exact (bZ_ (by repeat (first | (with_reducible first | exact HB.out | apply bA_ | apply bN_ | apply bD_ | refine bS_ ?_ GE555.out) | exact HB.out))) : w.heap.size ≤ gb556)); have n4_ := Aside0.mk ((by rw [hg]; exact (bZ_ (by repeat (first | (with_reducible first | exact HB.out | apply bA_ | apply bN_ | apply bD_ | refine bS_ ?_ GE555.out) | exact HB.out))) : w.heap.size ≤ gb556)); have n5_ := Aside0.mk ((by rw [hg]; exact Nat.ne_of_lt (blk_lt (g := gb555) (o := .cells #[.int .i64 a0_0, .int .i64 a0_1, .int .i64 a0_2, .string a0_3, .string a0_4, .string a0_5, .int .i64 a0_6, .string a0_7, .int .i64 a0_8, .int .i64 a0_9, .int .i64 a0_10, .bool a0_11, .string a0_12] 27 (0, 0)) (by (with_reducible repeat (first | refine kN_ ?_ _ | refine kD_ ?_ | refine kA_ ?_ _)); exact BK555.out)) : gb555 ≠ gb556)); have n6_ := Aside0.mk ((by rw [hg]; exact Nat.ne_of_gt (blk_lt (g := gb555) (o := .cells #[.int .i64 a0_0, .int .i64 a0_1, .int .i64 a0_2, .string a0_3, .string a0_4, .string a0_5, .int .i64 a0_6, .string a0_7, .int .i64 a0_8, .int .i64 a0_9, .int .i64 a0_10, .bool a0_11, .string a0_12] 27 (0, 0)) (by (with_reducible repeat (first | refine kN_ ?_ _ | refine kD_ ?_ | refine kA_ ?_ _)); exact BK555.out)) : gb556 ≠ gb555)); clear BK555; clear HB; have BK555 := n0_; have HB := n1_; have BK556 := n2_; have GW556 := n3_; have GE556 := n4_; have NB555_556 := n5_; have NB556_555 := n6_; clear n0_ n1_ n2_ n3_ n4_ n5_ n6_; clear hb hbox hg) | ((with_reducible refine gC_ (f := 8) rfl ?_); refine goesL_ (some 23) rfl rfl Tryd.func8 (by kernel_rfl) rfl #[] rfl (by (try simp only [List.map_toArray, List.map_cons, List.map_nil]); first | done | rfl | (simp only [List.length_drop, List.length_take]; rfl)) ?_; (with_reducible refine (gonglaw23_works.calls k  true _ ⟨TabW.now HT.out (by repeat (first | (with_reducible first | exact HB.out | apply bA_ | apply bN_ | apply bD_ | refine bS_ ?_ GE555.out | refine bS_ ?_ GE556.out) | exact HB.out))⟩ A4.out).mono ?_); rintro e w9 ⟨rfl, hb⟩; refine ⟨_, rfl, ?_⟩; have n0_ := Aside0.mk (kB_ (g := gb555) (o := .cells #[.int .i64 a0_0, .int .i64 a0_1, .int .i64 a0_2, .string a0_3, .string a0_4, .string a0_5, .int .i64 a0_6, .string a0_7, .int .i64 a0_8, .int .i64 a0_9, .int .i64 a0_10, .bool a0_11, .string a0_12] 27 (0, 0)) (by (with_reducible repeat (first | refine kN_ ?_ _ | refine kD_ ?_ | refine kA_ ?_ _)); exact BK555.out) hb); have n1_ := Aside0.mk (kB_ (g := gb556) (o := .cells #[.int .i64 a1_0, .int .i64 a1_1, .int .i64 a1_2, .string a1_3, .string a1_4, .string a1_5, .int .i64 a1_6, .string a1_7, .int .i64 a1_8, .int .i64 a1_9, .int .i64 a1_10, .bool a1_11, .string a1_12] 27 (0, 0)) (by (with_reducible repeat (first | refine kN_ ?_ _ | refine kD_ ?_ | refine kA_ ?_ _)); exact BK556.out) hb); have n2_ := Aside0.mk (bT_ (by repeat (first | (with_reducible first | exact HB.out | apply bA_ | apply bN_ | apply bD_ | refine bS_ ?_ GE555.out | refine bS_ ?_ GE556.out) | exact HB.out)) hb); clear BK555; clear BK556; clear HB; have BK555 := n0_; have BK556 := n1_; have HB := n2_; clear n0_ n1_ n2_; (try clear hb); (try clear hb2); (try clear hk); (try clear hi)))
  (try simp only [Act.put, List.setIfInBounds_toArray, List.set_cons_zero, List.set_cons_succ])
  go_cut [32] (fun v32 wc => ∃ (kq : Nat) (x32_5 : Bool), v32 = .bool x32_5 ∧ Aside0 (gonglaw23_TicketBack.j0 kq a2 x32_5 a0_0 a0_1 a0_2 a0_3 a0_4 a0_5 a0_6 a0_7 a0_8 a0_9 a0_10 a0_11 a0_12 a1_0 a1_1 a1_2 a1_3 a1_4 a1_5 a1_6 a1_7 a1_8 a1_9 a1_10 a1_11 a1_12 = some r) ∧ Aside0 (kq ≤ k) ∧ Aside0 (wc.heap[gb555]? = some (.cells #[.int .i64 a0_0, .int .i64 a0_1, .int .i64 a0_2, .string a0_3, .string a0_4, .string a0_5, .int .i64 a0_6, .string a0_7, .int .i64 a0_8, .int .i64 a0_9, .int .i64 a0_10, .bool a0_11, .string a0_12] 27 (0, 0))) ∧ Aside0 (wc.heap[gb556]? = some (.cells #[.int .i64 a1_0, .int .i64 a1_1, .int .i64 a1_2, .string a1_3, .string a1_4, .string a1_5, .int .i64 a1_6, .string a1_7, .int .i64 a1_8, .int .i64 a1_9, .int .i64 a1_10, .bool a1_11, .string a1_12] 27 (0, 0))) ∧ Aside0 (Below w.heap.size w wc))
  case first =>
   have H := HC6.out
   clear HC6
   replace H := Option.bind_eq_some_iff.mp H
   obtain ⟨t558, A100, H⟩ := H
   try dsimp only at H
   have A10 := Aside0.mk A100
   clear A100
   by_cases c11 : t558 = true
   ·subst c11
    have H1 : ((gonglaw23_short.f a1_0 a1_1 a1_2 a1_3 a1_4 a1_5 a1_6 a1_7 a1_8 a1_9 a1_10 a1_11 a1_12).bind fun t559 => (gonglaw23_TicketBack.j0 k a2 (!t559) a0_0 a0_1 a0_2 a0_3 a0_4 a0_5 a0_6 a0_7 a0_8 a0_9 a0_10 a0_11 a0_12 a1_0 a1_1 a1_2 a1_3 a1_4 a1_5 a1_6 a1_7 a1_8 a1_9 a1_10 a1_11 a1_12)) = some r := by rw [if_pos rfl] at H; exact H
    clear H
    have H := H1
    clear H1
    replace H := Option.bind_eq_some_iff.mp H
    obtain ⟨t559, A120, H⟩ := H
    try dsimp only at H
    have A12 := Aside0.mk A120
    clear A120
    have H' := Aside0.mk H
    clear H
    have hnb13 := NB555_556.out
    have hnc13 := NB556_555.out
    obtain ⟨hcz14_0, hcz14_1, hcz14_2, hcz14_3, hcz14_4, hcz14_5, hcz14_6, hcz14_7, hcz14_8, hcz14_9, hcz14_10, hcz14_11, hcz14_12⟩ := cell13 BK555.out
    obtain ⟨hfz14_0, hfz14_1, hfz14_2, hfz14_3, hfz14_4, hfz14_5, hfz14_6, hfz14_7, hfz14_8, hfz14_9, hfz14_10, hfz14_11, hfz14_12⟩ := froz13 BK555.out
    go_wp2_with (first | ((with_reducible refine gC_ (f := 7) rfl ?_); refine goesL_ (some 26) rfl rfl Tryd.func7 (by kernel_rfl) rfl #[.agg #[.int .i64 a0_0, .int .i64 a0_1, .int .i64 a0_2, .string a0_3, .string a0_4, .string a0_5, .int .i64 a0_6, .string a0_7, .int .i64 a0_8, .int .i64 a0_9, .int .i64 a0_10, .bool a0_11, .string a0_12]] rfl (by (try simp only [List.map_toArray, List.map_cons, List.map_nil]); first | done | rfl | (simp only [List.length_drop, List.length_take]; rfl)) ?_; (with_reducible refine (gonglaw23_short.calls a0_0 a0_1 a0_2 a0_3 a0_4 a0_5 a0_6 a0_7 a0_8 a0_9 a0_10 a0_11 a0_12 true _ A10.out).mono ?_); rintro e w15 ⟨rfl, hb⟩; refine ⟨_, rfl, ?_⟩; have n0_ := Aside0.mk (kB_ (g := gb555) (o := .cells #[.int .i64 a0_0, .int .i64 a0_1, .int .i64 a0_2, .string a0_3, .string a0_4, .string a0_5, .int .i64 a0_6, .string a0_7, .int .i64 a0_8, .int .i64 a0_9, .int .i64 a0_10, .bool a0_11, .string a0_12] 27 (0, 0)) (by (with_reducible repeat (first | refine kN_ ?_ _ | refine kD_ ?_ | refine kA_ ?_ _)); exact BK555.out) hb); have n1_ := Aside0.mk (kB_ (g := gb556) (o := .cells #[.int .i64 a1_0, .int .i64 a1_1, .int .i64 a1_2, .string a1_3, .string a1_4, .string a1_5, .int .i64 a1_6, .string a1_7, .int .i64 a1_8, .int .i64 a1_9, .int .i64 a1_10, .bool a1_11, .string a1_12] 27 (0, 0)) (by (with_reducible repeat (first | refine kN_ ?_ _ | refine kD_ ?_ | refine kA_ ?_ _)); exact BK556.out) hb); have n2_ := Aside0.mk (bT_ (by repeat (first | (with_reducible first | exact HB.out | apply bA_ | apply bN_ | apply bD_ | refine bS_ ?_ GE555.out | refine bS_ ?_ GE556.out) | exact HB.out)) hb); clear BK555; clear BK556; clear HB; have BK555 := n0_; have BK556 := n1_; have HB := n2_; clear n0_ n1_ n2_; (try clear hb); (try clear hb2); (try clear hk); (try clear hi); obtain ⟨hcz16_0, hcz16_1, hcz16_2, hcz16_3, hcz16_4, hcz16_5, hcz16_6, hcz16_7, hcz16_8, hcz16_9, hcz16_10, hcz16_11, hcz16_12⟩ := cell13 BK556.out; obtain ⟨hfz16_0, hfz16_1, hfz16_2, hfz16_3, hfz16_4, hfz16_5, hfz16_6, hfz16_7, hfz16_8, hfz16_9, hfz16_10, hfz16_11, hfz16_12⟩ := froz13 BK556.out) | (go_at_call 7; (with_reducible refine (gonglaw23_short.calls a1_0 a1_1 a1_2 a1_3 a1_4 a1_5 a1_6 a1_7 a1_8 a1_9 a1_10 a1_11 a1_12 t559 _ A12.out).mono ?_); rintro e w17 ⟨rfl, hb⟩; have n0_ := Aside0.mk (kB_ (g := gb555) (o := .cells #[.int .i64 a0_0, .int .i64 a0_1, .int .i64 a0_2, .string a0_3, .string a0_4, .string a0_5, .int .i64 a0_6, .string a0_7, .int .i64 a0_8, .int .i64 a0_9, .int .i64 a0_10, .bool a0_11, .string a0_12] 27 (0, 0)) (by (with_reducible repeat (first | refine kN_ ?_ _ | refine kD_ ?_ | refine kA_ ?_ _)); exact BK555.out) hb); have n1_ := Aside0.mk (kB_ (g := gb556) (o := .cells #[.int .i64 a1_0, .int .i64 a1_1, .int .i64 a1_2, .string a1_3, .string a1_4, .string a1_5, .int .i64 a1_6, .string a1_7, .int .i64 a1_8, .int .i64 a1_9, .int .i64 a1_10, .bool a1_11, .string a1_12] 27 (0, 0)) (by (with_reducible repeat (first | refine kN_ ?_ _ | refine kD_ ?_ | refine kA_ ?_ _)); exact BK556.out) hb); have n2_ := Aside0.mk (bT_ (by repeat (first | (with_reducible first | exact HB.out | apply bA_ | apply bN_ | apply bD_ | refine bS_ ?_ GE555.out | refine bS_ ?_ GE556.out) | exact HB.out)) hb); clear BK555; clear BK556; clear HB; have BK555 := n0_; have BK556 := n1_; have HB := n2_; clear n0_ n1_ n2_; (try clear hb); (try clear hb2); (try clear hk); (try clear hi)))
    go_meet
    case rel => exact ⟨_, (!t559), (by first | rfl | (simp; done) | (simp [*]; done)), H', ⟨by first | omega | exact Nat.le_refl _⟩, ⟨by (with_reducible repeat (first | refine kN_ ?_ _ | refine kD_ ?_ | refine kA_ ?_ _)); exact BK555.out⟩, ⟨by (with_reducible repeat (first | refine kN_ ?_ _ | refine kD_ ?_ | refine kA_ ?_ _)); exact BK556.out⟩, ⟨by repeat (first | (with_reducible first | exact HB.out | apply bA_ | apply bN_ | apply bD_ | refine bS_ ?_ GE555.out | refine bS_ ?_ GE556.out) | exact HB.out)⟩⟩
   ·replace c11 := Bool.eq_false_iff.mpr c11
    subst c11
    have H1 : (gonglaw23_TicketBack.j0 k a2 true a0_0 a0_1 a0_2 a0_3 a0_4 a0_5 a0_6 a0_7 a0_8 a0_9 a0_10 a0_11 a0_12 a1_0 a1_1 a1_2 a1_3 a1_4 a1_5 a1_6 a1_7 a1_8 a1_9 a1_10 a1_11 a1_12) = some r := by rw [if_neg (show ¬ (false = true) by decide)] at H; exact H
    clear H
    have H := H1
    clear H1
    have H' := Aside0.mk H
    clear H
    have hnb18 := NB555_556.out
    have hnc18 := NB556_555.out
    obtain ⟨hcz19_0, hcz19_1, hcz19_2, hcz19_3, hcz19_4, hcz19_5, hcz19_6, hcz19_7, hcz19_8, hcz19_9, hcz19_10, hcz19_11, hcz19_12⟩ := cell13 BK555.out
    obtain ⟨hfz19_0, hfz19_1, hfz19_2, hfz19_3, hfz19_4, hfz19_5, hfz19_6, hfz19_7, hfz19_8, hfz19_9, hfz19_10, hfz19_11, hfz19_12⟩ := froz13 BK555.out
    go_wp2_with (first | ((with_reducible refine gC_ (f := 7) rfl ?_); refine goesL_ (some 26) rfl rfl Tryd.func7 (by kernel_rfl) rfl #[.agg #[.int .i64 a0_0, .int .i64 a0_1, .int .i64 a0_2, .string a0_3, .string a0_4, .string a0_5, .int .i64 a0_6, .string a0_7, .int .i64 a0_8, .int .i64 a0_9, .int .i64 a0_10, .bool a0_11, .string a0_12]] rfl (by (try simp only [List.map_toArray, List.map_cons, List.map_nil]); first | done | rfl | (simp only [List.length_drop, List.length_take]; rfl)) ?_; (with_reducible refine (gonglaw23_short.calls a0_0 a0_1 a0_2 a0_3 a0_4 a0_5 a0_6 a0_7 a0_8 a0_9 a0_10 a0_11 a0_12 false _ A10.out).mono ?_); rintro e w20 ⟨rfl, hb⟩; refine ⟨_, rfl, ?_⟩; have n0_ := Aside0.mk (kB_ (g := gb555) (o := .cells #[.int .i64 a0_0, .int .i64 a0_1, .int .i64 a0_2, .string a0_3, .string a0_4, .string a0_5, .int .i64 a0_6, .string a0_7, .int .i64 a0_8, .int .i64 a0_9, .int .i64 a0_10, .bool a0_11, .string a0_12] 27 (0, 0)) (by (with_reducible repeat (first | refine kN_ ?_ _ | refine kD_ ?_ | refine kA_ ?_ _)); exact BK555.out) hb); have n1_ := Aside0.mk (kB_ (g := gb556) (o := .cells #[.int .i64 a1_0, .int .i64 a1_1, .int .i64 a1_2, .string a1_3, .string a1_4, .string a1_5, .int .i64 a1_6, .string a1_7, .int .i64 a1_8, .int .i64 a1_9, .int .i64 a1_10, .bool a1_11, .string a1_12] 27 (0, 0)) (by (with_reducible repeat (first | refine kN_ ?_ _ | refine kD_ ?_ | refine kA_ ?_ _)); exact BK556.out) hb); have n2_ := Aside0.mk (bT_ (by repeat (first | (with_reducible first | exact HB.out | apply bA_ | apply bN_ | apply bD_ | refine bS_ ?_ GE555.out | refine bS_ ?_ GE556.out) | exact HB.out)) hb); clear BK555; clear BK556; clear HB; have BK555 := n0_; have BK556 := n1_; have HB := n2_; clear n0_ n1_ n2_; (try clear hb); (try clear hb2); (try clear hk); (try clear hi)))
    go_meet
    case rel => exact ⟨_, (true), (by first | rfl | (simp; done) | (simp [*]; done)), H', ⟨by first | omega | exact Nat.le_refl _⟩, ⟨by (with_reducible repeat (first | refine kN_ ?_ _ | refine kD_ ?_ | refine kA_ ?_ _)); exact BK555.out⟩, ⟨by (with_reducible repeat (first | refine kN_ ?_ _ | refine kD_ ?_ | refine kA_ ?_ _)); exact BK556.out⟩, ⟨by repeat (first | (with_reducible first | exact HB.out | apply bA_ | apply bN_ | apply bD_ | refine bS_ ?_ GE555.out | refine bS_ ?_ GE556.out) | exact HB.out)⟩⟩
  case rest =>
   clear HC6
   try clear c1
   try clear p2
   try clear c5
   try clear c7
   try clear c8
   try clear c11
   try clear c13
   try clear c18
   try clear hcz14_0
   try clear hcz14_1
   try clear hcz14_10
   try clear hcz14_11
   try clear hcz14_12
   try clear hcz14_2
   try clear hcz14_3
   try clear hcz14_4
   try clear hcz14_5
   try clear hcz14_6
   try clear hcz14_7
   try clear hcz14_8
   try clear hcz14_9
   try clear hcz16_0
   try clear hcz16_1
   try clear hcz16_10
   try clear hcz16_11
   try clear hcz16_12
   try clear hcz16_2
   try clear hcz16_3
   try clear hcz16_4
   try clear hcz16_5
   try clear hcz16_6
   try clear hcz16_7
   try clear hcz16_8
   try clear hcz16_9
   try clear hcz19_0
   try clear hcz19_1
   try clear hcz19_10
   try clear hcz19_11
   try clear hcz19_12
   try clear hcz19_2
   try clear hcz19_3
   try clear hcz19_4
   try clear hcz19_5
   try clear hcz19_6
   try clear hcz19_7
   try clear hcz19_8
   try clear hcz19_9
   try clear hfz14_0
   try clear hfz14_1
   try clear hfz14_10
   try clear hfz14_11
   try clear hfz14_12
   try clear hfz14_2
   try clear hfz14_3
   try clear hfz14_4
   try clear hfz14_5
   try clear hfz14_6
   try clear hfz14_7
   try clear hfz14_8
   try clear hfz14_9
   try clear hfz16_0
   try clear hfz16_1
   try clear hfz16_10
   try clear hfz16_11
   try clear hfz16_12
   try clear hfz16_2
   try clear hfz16_3
   try clear hfz16_4
   try clear hfz16_5
   try clear hfz16_6
   try clear hfz16_7
   try clear hfz16_8
   try clear hfz16_9
   try clear hfz19_0
   try clear hfz19_1
   try clear hfz19_10
   try clear hfz19_11
   try clear hfz19_12
   try clear hfz19_2
   try clear hfz19_3
   try clear hfz19_4
   try clear hfz19_5
   try clear hfz19_6
   try clear hfz19_7
   try clear hfz19_8
   try clear hfz19_9
   obtain ⟨kq, x32_5, rfl, HA, HJ5, BK555, BK556, HB⟩ := hcut
   cases kq with
   | zero => exact absurd HA.out (by simp [gonglaw23_TicketBack.j0])
   | succ kj5 =>
    have H := HA.out
    clear HA
    simp only [gonglaw23_TicketBack.j0] at H
    by_cases c21 : x32_5 = true
    ·subst c21
     have H1 : (some true) = some r := by rw [if_pos rfl] at H; exact H
     clear H
     have H := H1
     clear H1
     obtain rfl := Option.some.inj H
     go_wp2
     go_ret
     exact ⟨by first | rfl | (simp [errW_none, errW_some] <;> rfl) | (simp [*, errW_none, errW_some] <;> rfl), by repeat (first | (with_reducible first | exact HB.out | apply bA_ | apply bN_ | apply bD_ | refine bS_ ?_ GE555.out | refine bS_ ?_ GE556.out) | exact HB.out)⟩
    ·replace c21 := Bool.eq_false_iff.mpr c21
     subst c21
     have H1 : ((ticket_Encode.f kj5 a0_0 a0_1 a0_2 a0_3 a0_4 a0_5 a0_6 a0_7 a0_8 a0_9 a0_10 a0_11 a0_12).bind fun bt560 => (if bt560.2 = 0 then ((ticket_Decode.f kj5 bt560.1).bind fun bt562 => ((ticket_Acked.f kj5 bt560.1).bind fun bt577 => (if bt562.2.2.2.2.2.2.2.2.2.2.2.2.2 = 0 then (if (!(bt562.1 == a0_0) || (!(bt562.2.1 == a0_1) || ((!(bt562.2.2.1 == a0_2) || ((!(bt562.2.2.2.1.toList == a0_3.toList) || (!(bt562.2.2.2.2.1.toList == a0_4.toList) || (!(bt562.2.2.2.2.2.1.toList == a0_5.toList) || (!(bt562.2.2.2.2.2.2.1 == a0_6) || (!(bt562.2.2.2.2.2.2.2.1.toList == a0_7.toList)))))) || (!(bt562.2.2.2.2.2.2.2.2.1 == a0_8) || (!(bt562.2.2.2.2.2.2.2.2.2.1 == a0_9) || (!(bt562.2.2.2.2.2.2.2.2.2.2.1 == a0_10) || (!(bt562.2.2.2.2.2.2.2.2.2.2.2.1 == a0_11) || (!(bt562.2.2.2.2.2.2.2.2.2.2.2.2.1.toList == a0_12.toList))))))))))) = true then (gonglaw23_TicketBack.j1 kj5 a2 true a0_0 a0_1 a0_2 a0_3 a0_4 a0_5 a0_6 a0_7 a0_8 a0_9 a0_10 a0_11 a0_12 a1_0 a1_1 a1_2 a1_3 a1_4 a1_5 a1_6 a1_7 a1_8 a1_9 a1_10 a1_11 a1_12) else (gonglaw23_TicketBack.j1 kj5 a2 (bt577.2 != 230) a0_0 a0_1 a0_2 a0_3 a0_4 a0_5 a0_6 a0_7 a0_8 a0_9 a0_10 a0_11 a0_12 a1_0 a1_1 a1_2 a1_3 a1_4 a1_5 a1_6 a1_7 a1_8 a1_9 a1_10 a1_11 a1_12)) else (gonglaw23_TicketBack.j1 kj5 a2 true a0_0 a0_1 a0_2 a0_3 a0_4 a0_5 a0_6 a0_7 a0_8 a0_9 a0_10 a0_11 a0_12 a1_0 a1_1 a1_2 a1_3 a1_4 a1_5 a1_6 a1_7 a1_8 a1_9 a1_10 a1_11 a1_12)))) else (gonglaw23_TicketBack.j2 kj5 a2))) = some r := by rw [if_neg (show ¬ (false = true) by decide)] at H; exact H
     clear H
     have H := H1
     clear H1
     replace H := Option.bind_eq_some_iff.mp H
     obtain ⟨⟨t560, t561⟩, A220, H⟩ := H
     try dsimp only at H
     have A22 := Aside0.mk A220
     clear A220
     have HC23 := Aside0.mk H
     clear H
     have hnb24 := NB555_556.out
     have hnc24 := NB556_555.out
     obtain ⟨hcz25_0, hcz25_1, hcz25_2, hcz25_3, hcz25_4, hcz25_5, hcz25_6, hcz25_7, hcz25_8, hcz25_9, hcz25_10, hcz25_11, hcz25_12⟩ := cell13 BK555.out
     obtain ⟨hfz25_0, hfz25_1, hfz25_2, hfz25_3, hfz25_4, hfz25_5, hfz25_6, hfz25_7, hfz25_8, hfz25_9, hfz25_10, hfz25_11, hfz25_12⟩ := froz13 BK555.out
     go_upto_if 39 with (first | ((with_reducible refine gC_ (f := 11) rfl ?_); refine goesL_ (some 35) rfl rfl Tryd.func11 (by kernel_rfl) rfl #[.agg #[.int .i64 a0_0, .int .i64 a0_1, .int .i64 a0_2, .string a0_3, .string a0_4, .string a0_5, .int .i64 a0_6, .string a0_7, .int .i64 a0_8, .int .i64 a0_9, .int .i64 a0_10, .bool a0_11, .string a0_12]] rfl (by (try simp only [List.map_toArray, List.map_cons, List.map_nil]); first | done | rfl | (simp only [List.length_drop, List.length_take]; rfl)) ?_; (with_reducible refine (ticket_Encode.calls kj5 a0_0 a0_1 a0_2 a0_3 a0_4 a0_5 a0_6 a0_7 a0_8 a0_9 a0_10 a0_11 a0_12 t560 t561 _ ⟨TabW.now HT.out (by repeat (first | (with_reducible first | exact HB.out | apply bA_ | apply bN_ | apply bD_ | refine bS_ ?_ GE555.out | refine bS_ ?_ GE556.out) | exact HB.out))⟩ A22.out).mono ?_); rintro e w26 ⟨rfl, hb⟩; refine ⟨_, rfl, ?_⟩; have n0_ := Aside0.mk (kB_ (g := gb555) (o := .cells #[.int .i64 a0_0, .int .i64 a0_1, .int .i64 a0_2, .string a0_3, .string a0_4, .string a0_5, .int .i64 a0_6, .string a0_7, .int .i64 a0_8, .int .i64 a0_9, .int .i64 a0_10, .bool a0_11, .string a0_12] 27 (0, 0)) (by (with_reducible repeat (first | refine kN_ ?_ _ | refine kD_ ?_ | refine kA_ ?_ _)); exact BK555.out) hb); have n1_ := Aside0.mk (kB_ (g := gb556) (o := .cells #[.int .i64 a1_0, .int .i64 a1_1, .int .i64 a1_2, .string a1_3, .string a1_4, .string a1_5, .int .i64 a1_6, .string a1_7, .int .i64 a1_8, .int .i64 a1_9, .int .i64 a1_10, .bool a1_11, .string a1_12] 27 (0, 0)) (by (with_reducible repeat (first | refine kN_ ?_ _ | refine kD_ ?_ | refine kA_ ?_ _)); exact BK556.out) hb); have n2_ := Aside0.mk (bT_ (by repeat (first | (with_reducible first | exact HB.out | apply bA_ | apply bN_ | apply bD_ | refine bS_ ?_ GE555.out | refine bS_ ?_ GE556.out) | exact HB.out)) hb); clear BK555; clear BK556; clear HB; have BK555 := n0_; have BK556 := n1_; have HB := n2_; clear n0_ n1_ n2_; (try clear hb); (try clear hb2); (try clear hk); (try clear hi)))
     (try simp only [Act.put, List.setIfInBounds_toArray, List.set_cons_zero, List.set_cons_succ])
     go_cut [] (fun wc => ∃ (kq : Nat), Aside0 (gonglaw23_TicketBack.j2 kq a2 = some r) ∧ Aside0 (kq ≤ kj5) ∧ Aside0 (wc.heap[gb555]? = some (.cells #[.int .i64 a0_0, .int .i64 a0_1, .int .i64 a0_2, .string a0_3, .string a0_4, .string a0_5, .int .i64 a0_6, .string a0_7, .int .i64 a0_8, .int .i64 a0_9, .int .i64 a0_10, .bool a0_11, .string a0_12] 27 (0, 0))) ∧ Aside0 (wc.heap[gb556]? = some (.cells #[.int .i64 a1_0, .int .i64 a1_1, .int .i64 a1_2, .string a1_3, .string a1_4, .string a1_5, .int .i64 a1_6, .string a1_7, .int .i64 a1_8, .int .i64 a1_9, .int .i64 a1_10, .bool a1_11, .string a1_12] 27 (0, 0))) ∧ Aside0 (Below w.heap.size w wc))
     case first =>
      have H := HC23.out
      clear HC23
      by_cases c27 : t561 = 0
      ·rw [if_pos c27] at H
       have c27b0 : (t561 == 0) = true := beq_iff_eq.mpr c27
       have c27b1 : (t561 != 0) = false := bne_eq_false_iff_eq.mpr c27
       clear c27
       (first | rw [c27b0] | (simp only [i64_w, i32_w]; rw [c27b0]) | skip)
       replace H := Option.bind_eq_some_iff.mp H
       obtain ⟨⟨t562, t563, t564, t565, t566, t567, t568, t569, t570, t571, t572, t573, t574, t575⟩, A280, H⟩ := H
       try dsimp only at H
       have A28 := Aside0.mk A280
       clear A280
       replace H := Option.bind_eq_some_iff.mp H
       obtain ⟨⟨t577, t578⟩, A290, H⟩ := H
       try dsimp only at H
       have A29 := Aside0.mk A290
       clear A290
       have HC30 := Aside0.mk H
       clear H
       go_upto_region 9 with (first | ((with_reducible refine gC_ (f := 17) rfl ?_); refine goesL_ (some 42) rfl rfl Tryd.func17 (by kernel_rfl) rfl #[.string t560] rfl (by (try simp only [List.map_toArray, List.map_cons, List.map_nil]); first | done | rfl | (simp only [List.length_drop, List.length_take]; rfl)) ?_; (with_reducible refine (ticket_Decode.calls kj5 t560 t562 t563 t564 t565 t566 t567 t568 t569 t570 t571 t572 t573 t574 t575 _ ⟨TabW.now HT.out (by repeat (first | (with_reducible first | exact HB.out | apply bA_ | apply bN_ | apply bD_ | refine bS_ ?_ GE555.out | refine bS_ ?_ GE556.out) | exact HB.out))⟩ A28.out).mono ?_); rintro e w31 ⟨rfl, hb⟩; refine ⟨_, rfl, ?_⟩; have n0_ := Aside0.mk (kB_ (g := gb555) (o := .cells #[.int .i64 a0_0, .int .i64 a0_1, .int .i64 a0_2, .string a0_3, .string a0_4, .string a0_5, .int .i64 a0_6, .string a0_7, .int .i64 a0_8, .int .i64 a0_9, .int .i64 a0_10, .bool a0_11, .string a0_12] 27 (0, 0)) (by (with_reducible repeat (first | refine kN_ ?_ _ | refine kD_ ?_ | refine kA_ ?_ _)); exact BK555.out) hb); have n1_ := Aside0.mk (kB_ (g := gb556) (o := .cells #[.int .i64 a1_0, .int .i64 a1_1, .int .i64 a1_2, .string a1_3, .string a1_4, .string a1_5, .int .i64 a1_6, .string a1_7, .int .i64 a1_8, .int .i64 a1_9, .int .i64 a1_10, .bool a1_11, .string a1_12] 27 (0, 0)) (by (with_reducible repeat (first | refine kN_ ?_ _ | refine kD_ ?_ | refine kA_ ?_ _)); exact BK556.out) hb); have n2_ := Aside0.mk (bT_ (by repeat (first | (with_reducible first | exact HB.out | apply bA_ | apply bN_ | apply bD_ | refine bS_ ?_ GE555.out | refine bS_ ?_ GE556.out) | exact HB.out)) hb); clear BK555; clear BK556; clear HB; have BK555 := n0_; have BK556 := n1_; have HB := n2_; clear n0_ n1_ n2_; (try clear hb); (try clear hb2); (try clear hk); (try clear hi)) | ((with_reducible refine gD_ (N := 9) rfl ?_); refine gB_ ?hg (N := 9) ?hd (cs := #[.int .i64 0, .int .i64 0, .int .i64 0, .string (⟨#[]⟩ : ByteArray), .string (⟨#[]⟩ : ByteArray), .string (⟨#[]⟩ : ByteArray), .int .i64 0, .string (⟨#[]⟩ : ByteArray), .int .i64 0, .int .i64 0, .int .i64 0, .bool false, .string (⟨#[]⟩ : ByteArray)]) (t := 27) ?hr ?_; (case hd => rfl); (case hg => rfl); (case hr => first | (go_simp; done) | (go_simp; rfl)); intro gb576 hg w32 hbox hb; have n0_ := Aside0.mk (kB_ (g := gb555) (o := .cells #[.int .i64 a0_0, .int .i64 a0_1, .int .i64 a0_2, .string a0_3, .string a0_4, .string a0_5, .int .i64 a0_6, .string a0_7, .int .i64 a0_8, .int .i64 a0_9, .int .i64 a0_10, .bool a0_11, .string a0_12] 27 (0, 0)) (by (with_reducible repeat (first | refine kN_ ?_ _ | refine kD_ ?_ | refine kA_ ?_ _)); exact BK555.out) hb); have n1_ := Aside0.mk (kB_ (g := gb556) (o := .cells #[.int .i64 a1_0, .int .i64 a1_1, .int .i64 a1_2, .string a1_3, .string a1_4, .string a1_5, .int .i64 a1_6, .string a1_7, .int .i64 a1_8, .int .i64 a1_9, .int .i64 a1_10, .bool a1_11, .string a1_12] 27 (0, 0)) (by (with_reducible repeat (first | refine kN_ ?_ _ | refine kD_ ?_ | refine kA_ ?_ _)); exact BK556.out) hb); have n2_ := Aside0.mk (bT_ (by repeat (first | (with_reducible first | exact HB.out | apply bA_ | apply bN_ | apply bD_ | refine bS_ ?_ GE555.out | refine bS_ ?_ GE556.out) | exact HB.out)) hb); have n3_ := Aside0.mk (hbox); have n4_ := Aside0.mk ((by rw [hg]; exact (bZ_ (by repeat (first | (with_reducible first | exact HB.out | apply bA_ | apply bN_ | apply bD_ | refine bS_ ?_ GE555.out | refine bS_ ?_ GE556.out) | exact HB.out))) : w.heap.size ≤ gb576)); have n5_ := Aside0.mk ((by rw [hg]; exact (bZ_ (by repeat (first | (with_reducible first | exact HB.out | apply bA_ | apply bN_ | apply bD_ | refine bS_ ?_ GE555.out | refine bS_ ?_ GE556.out) | exact HB.out))) : w.heap.size ≤ gb576)); have n6_ := Aside0.mk ((by rw [hg]; exact Nat.ne_of_lt (blk_lt (g := gb555) (o := .cells #[.int .i64 a0_0, .int .i64 a0_1, .int .i64 a0_2, .string a0_3, .string a0_4, .string a0_5, .int .i64 a0_6, .string a0_7, .int .i64 a0_8, .int .i64 a0_9, .int .i64 a0_10, .bool a0_11, .string a0_12] 27 (0, 0)) (by (with_reducible repeat (first | refine kN_ ?_ _ | refine kD_ ?_ | refine kA_ ?_ _)); exact BK555.out)) : gb555 ≠ gb576)); have n7_ := Aside0.mk ((by rw [hg]; exact Nat.ne_of_gt (blk_lt (g := gb555) (o := .cells #[.int .i64 a0_0, .int .i64 a0_1, .int .i64 a0_2, .string a0_3, .string a0_4, .string a0_5, .int .i64 a0_6, .string a0_7, .int .i64 a0_8, .int .i64 a0_9, .int .i64 a0_10, .bool a0_11, .string a0_12] 27 (0, 0)) (by (with_reducible repeat (first | refine kN_ ?_ _ | refine kD_ ?_ | refine kA_ ?_ _)); exact BK555.out)) : gb576 ≠ gb555)); have n8_ := Aside0.mk ((by rw [hg]; exact Nat.ne_of_lt (blk_lt (g := gb556) (o := .cells #[.int .i64 a1_0, .int .i64 a1_1, .int .i64 a1_2, .string a1_3, .string a1_4, .string a1_5, .int .i64 a1_6, .string a1_7, .int .i64 a1_8, .int .i64 a1_9, .int .i64 a1_10, .bool a1_11, .string a1_12] 27 (0, 0)) (by (with_reducible repeat (first | refine kN_ ?_ _ | refine kD_ ?_ | refine kA_ ?_ _)); exact BK556.out)) : gb556 ≠ gb576)); have n9_ := Aside0.mk ((by rw [hg]; exact Nat.ne_of_gt (blk_lt (g := gb556) (o := .cells #[.int .i64 a1_0, .int .i64 a1_1, .int .i64 a1_2, .string a1_3, .string a1_4, .string a1_5, .int .i64 a1_6, .string a1_7, .int .i64 a1_8, .int .i64 a1_9, .int .i64 a1_10, .bool a1_11, .string a1_12] 27 (0, 0)) (by (with_reducible repeat (first | refine kN_ ?_ _ | refine kD_ ?_ | refine kA_ ?_ _)); exact BK556.out)) : gb576 ≠ gb556)); clear BK555; clear BK556; clear HB; have BK555 := n0_; have BK556 := n1_; have HB := n2_; have BK576 := n3_; have GW576 := n4_; have GE576 := n5_; have NB555_576 := n6_; have NB576_555 := n7_; have NB556_576 := n8_; have NB576_556 := n9_; clear n0_ n1_ n2_ n3_ n4_ n5_ n6_ n7_ n8_ n9_; clear hb hbox hg; have hnb33 := NB576_555.out; have hnc33 := NB555_576.out; have hnb34 := NB576_556.out; have hnc34 := NB556_576.out; obtain ⟨hcz35_0, hcz35_1, hcz35_2, hcz35_3, hcz35_4, hcz35_5, hcz35_6, hcz35_7, hcz35_8, hcz35_9, hcz35_10, hcz35_11, hcz35_12⟩ := cell13 BK576.out; obtain ⟨hfz35_0, hfz35_1, hfz35_2, hfz35_3, hfz35_4, hfz35_5, hfz35_6, hfz35_7, hfz35_8, hfz35_9, hfz35_10, hfz35_11, hfz35_12⟩ := froz13 BK576.out) | ((with_reducible refine gC_ (f := 19) rfl ?_); refine goesL_ (some 47) rfl rfl Tryd.func19 (by kernel_rfl) rfl #[.string t560] rfl (by (try simp only [List.map_toArray, List.map_cons, List.map_nil]); first | done | rfl | (simp only [List.length_drop, List.length_take]; rfl)) ?_; (with_reducible refine (ticket_Acked.calls kj5 t560 t577 t578 _ ⟨TabW.now HT.out (by repeat (first | (with_reducible first | exact HB.out | apply bA_ | apply bN_ | apply bD_ | refine bS_ ?_ GE555.out | refine bS_ ?_ GE556.out | refine bS_ ?_ GE576.out) | exact HB.out))⟩ A29.out).mono ?_); rintro e w36 ⟨rfl, hb⟩; refine ⟨_, rfl, ?_⟩; have n0_ := Aside0.mk (kB_ (g := gb555) (o := .cells #[.int .i64 a0_0, .int .i64 a0_1, .int .i64 a0_2, .string a0_3, .string a0_4, .string a0_5, .int .i64 a0_6, .string a0_7, .int .i64 a0_8, .int .i64 a0_9, .int .i64 a0_10, .bool a0_11, .string a0_12] 27 (0, 0)) (by (with_reducible repeat (first | refine kN_ ?_ _ | refine kD_ ?_ | refine kA_ ?_ _)); refine kF_ ?_ NB555_576.out _; (with_reducible repeat (first | refine kN_ ?_ _ | refine kD_ ?_ | refine kA_ ?_ _)); refine kF_ ?_ NB555_576.out _; (with_reducible repeat (first | refine kN_ ?_ _ | refine kD_ ?_ | refine kA_ ?_ _)); refine kF_ ?_ NB555_576.out _; (with_reducible repeat (first | refine kN_ ?_ _ | refine kD_ ?_ | refine kA_ ?_ _)); refine kF_ ?_ NB555_576.out _; (with_reducible repeat (first | refine kN_ ?_ _ | refine kD_ ?_ | refine kA_ ?_ _)); refine kF_ ?_ NB555_576.out _; (with_reducible repeat (first | refine kN_ ?_ _ | refine kD_ ?_ | refine kA_ ?_ _)); refine kF_ ?_ NB555_576.out _; (with_reducible repeat (first | refine kN_ ?_ _ | refine kD_ ?_ | refine kA_ ?_ _)); refine kF_ ?_ NB555_576.out _; (with_reducible repeat (first | refine kN_ ?_ _ | refine kD_ ?_ | refine kA_ ?_ _)); refine kF_ ?_ NB555_576.out _; (with_reducible repeat (first | refine kN_ ?_ _ | refine kD_ ?_ | refine kA_ ?_ _)); refine kF_ ?_ NB555_576.out _; (with_reducible repeat (first | refine kN_ ?_ _ | refine kD_ ?_ | refine kA_ ?_ _)); refine kF_ ?_ NB555_576.out _; (with_reducible repeat (first | refine kN_ ?_ _ | refine kD_ ?_ | refine kA_ ?_ _)); refine kF_ ?_ NB555_576.out _; (with_reducible repeat (first | refine kN_ ?_ _ | refine kD_ ?_ | refine kA_ ?_ _)); refine kF_ ?_ NB555_576.out _; (with_reducible repeat (first | refine kN_ ?_ _ | refine kD_ ?_ | refine kA_ ?_ _)); refine kF_ ?_ NB555_576.out _; (with_reducible repeat (first | refine kN_ ?_ _ | refine kD_ ?_ | refine kA_ ?_ _)); exact BK555.out) hb); have n1_ := Aside0.mk (kB_ (g := gb556) (o := .cells #[.int .i64 a1_0, .int .i64 a1_1, .int .i64 a1_2, .string a1_3, .string a1_4, .string a1_5, .int .i64 a1_6, .string a1_7, .int .i64 a1_8, .int .i64 a1_9, .int .i64 a1_10, .bool a1_11, .string a1_12] 27 (0, 0)) (by (with_reducible repeat (first | refine kN_ ?_ _ | refine kD_ ?_ | refine kA_ ?_ _)); refine kF_ ?_ NB556_576.out _; (with_reducible repeat (first | refine kN_ ?_ _ | refine kD_ ?_ | refine kA_ ?_ _)); refine kF_ ?_ NB556_576.out _; (with_reducible repeat (first | refine kN_ ?_ _ | refine kD_ ?_ | refine kA_ ?_ _)); refine kF_ ?_ NB556_576.out _; (with_reducible repeat (first | refine kN_ ?_ _ | refine kD_ ?_ | refine kA_ ?_ _)); refine kF_ ?_ NB556_576.out _; (with_reducible repeat (first | refine kN_ ?_ _ | refine kD_ ?_ | refine kA_ ?_ _)); refine kF_ ?_ NB556_576.out _; (with_reducible repeat (first | refine kN_ ?_ _ | refine kD_ ?_ | refine kA_ ?_ _)); refine kF_ ?_ NB556_576.out _; (with_reducible repeat (first | refine kN_ ?_ _ | refine kD_ ?_ | refine kA_ ?_ _)); refine kF_ ?_ NB556_576.out _; (with_reducible repeat (first | refine kN_ ?_ _ | refine kD_ ?_ | refine kA_ ?_ _)); refine kF_ ?_ NB556_576.out _; (with_reducible repeat (first | refine kN_ ?_ _ | refine kD_ ?_ | refine kA_ ?_ _)); refine kF_ ?_ NB556_576.out _; (with_reducible repeat (first | refine kN_ ?_ _ | refine kD_ ?_ | refine kA_ ?_ _)); refine kF_ ?_ NB556_576.out _; (with_reducible repeat (first | refine kN_ ?_ _ | refine kD_ ?_ | refine kA_ ?_ _)); refine kF_ ?_ NB556_576.out _; (with_reducible repeat (first | refine kN_ ?_ _ | refine kD_ ?_ | refine kA_ ?_ _)); refine kF_ ?_ NB556_576.out _; (with_reducible repeat (first | refine kN_ ?_ _ | refine kD_ ?_ | refine kA_ ?_ _)); refine kF_ ?_ NB556_576.out _; (with_reducible repeat (first | refine kN_ ?_ _ | refine kD_ ?_ | refine kA_ ?_ _)); exact BK556.out) hb); have n2_ := Aside0.mk (kB_ (g := gb576) (o := .cells #[.int .i64 t562, .int .i64 t563, .int .i64 t564, .string t565, .string t566, .string t567, .int .i64 t568, .string t569, .int .i64 t570, .int .i64 t571, .int .i64 t572, .bool t573, .string t574] 27 (0, 0)) (by (with_reducible repeat (first | refine kN_ ?_ _ | refine kD_ ?_ | refine kA_ ?_ _)); refine blk_p13_0_12 (show _ = some (Obj.cells #[.int .i64 0, .int .i64 0, .int .i64 0, .string (⟨#[]⟩ : ByteArray), .string (⟨#[]⟩ : ByteArray), .string (⟨#[]⟩ : ByteArray), .int .i64 0, .string (⟨#[]⟩ : ByteArray), .int .i64 0, .int .i64 0, .int .i64 0, .bool false, .string (⟨#[]⟩ : ByteArray)] _ (0, 0)) from ?_); (with_reducible repeat (first | refine kN_ ?_ _ | refine kD_ ?_ | refine kA_ ?_ _)); exact BK576.out) hb); have n3_ := Aside0.mk (bT_ (by repeat (first | (with_reducible first | exact HB.out | apply bA_ | apply bN_ | apply bD_ | refine bS_ ?_ GE555.out | refine bS_ ?_ GE556.out | refine bS_ ?_ GE576.out) | exact HB.out)) hb); clear BK555; clear BK556; clear BK576; clear HB; have BK555 := n0_; have BK556 := n1_; have BK576 := n2_; have HB := n3_; clear n0_ n1_ n2_ n3_; (try clear hb); (try clear hb2); (try clear hk); (try clear hi)))
       (try simp only [Act.put, List.setIfInBounds_toArray, List.set_cons_zero, List.set_cons_succ])
       go_cut [60] (fun v60 wc => ∃ (kq : Nat) (x60_29 : Bool), v60 = .bool x60_29 ∧ Aside0 (gonglaw23_TicketBack.j1 kq a2 x60_29 a0_0 a0_1 a0_2 a0_3 a0_4 a0_5 a0_6 a0_7 a0_8 a0_9 a0_10 a0_11 a0_12 a1_0 a1_1 a1_2 a1_3 a1_4 a1_5 a1_6 a1_7 a1_8 a1_9 a1_10 a1_11 a1_12 = some r) ∧ Aside0 (kq ≤ kj5) ∧ Aside0 (wc.heap[gb555]? = some (.cells #[.int .i64 a0_0, .int .i64 a0_1, .int .i64 a0_2, .string a0_3, .string a0_4, .string a0_5, .int .i64 a0_6, .string a0_7, .int .i64 a0_8, .int .i64 a0_9, .int .i64 a0_10, .bool a0_11, .string a0_12] 27 (0, 0))) ∧ Aside0 (wc.heap[gb556]? = some (.cells #[.int .i64 a1_0, .int .i64 a1_1, .int .i64 a1_2, .string a1_3, .string a1_4, .string a1_5, .int .i64 a1_6, .string a1_7, .int .i64 a1_8, .int .i64 a1_9, .int .i64 a1_10, .bool a1_11, .string a1_12] 27 (0, 0))) ∧ Aside0 (wc.heap[gb576]? = some (.cells #[.int .i64 t562, .int .i64 t563, .int .i64 t564, .string t565, .string t566, .string t567, .int .i64 t568, .string t569, .int .i64 t570, .int .i64 t571, .int .i64 t572, .bool t573, .string t574] 27 (0, 0))) ∧ Aside0 (Below w.heap.size w wc))
       case first =>
        have H := HC30.out
        clear HC30
        by_cases c37 : t575 = 0
        ·rw [if_pos c37] at H
         have c37b0 : (t575 == 0) = true := beq_iff_eq.mpr c37
         have c37b1 : (t575 != 0) = false := bne_eq_false_iff_eq.mpr c37
         clear c37
         (first | rw [c37b0] | (simp only [i64_w, i32_w]; rw [c37b0]) | skip)
         by_cases c38 : (!(t562 == a0_0) || (!(t563 == a0_1) || ((!(t564 == a0_2) || ((!(t565.toList == a0_3.toList) || (!(t566.toList == a0_4.toList) || (!(t567.toList == a0_5.toList) || (!(t568 == a0_6) || (!(t569.toList == a0_7.toList)))))) || (!(t570 == a0_8) || (!(t571 == a0_9) || (!(t572 == a0_10) || (!(t573 == a0_11) || (!(t574.toList == a0_12.toList))))))))))) = true
         ·rw [if_pos c38] at H
          have c38b0 : (!(t562 == a0_0) || (!(t563 == a0_1) || ((!(t564 == a0_2) || ((!(t565.toList == a0_3.toList) || (!(t566.toList == a0_4.toList) || (!(t567.toList == a0_5.toList) || (!(t568 == a0_6) || (!(t569.toList == a0_7.toList)))))) || (!(t570 == a0_8) || (!(t571 == a0_9) || (!(t572 == a0_10) || (!(t573 == a0_11) || (!(t574.toList == a0_12.toList))))))))))) = true := c38
          clear c38
          have H' := Aside0.mk H
          clear H
          have hnb39 := NB576_555.out
          have hnc39 := NB555_576.out
          have hnb40 := NB576_556.out
          have hnc40 := NB556_576.out
          obtain ⟨hcz41_0, hcz41_1, hcz41_2, hcz41_3, hcz41_4, hcz41_5, hcz41_6, hcz41_7, hcz41_8, hcz41_9, hcz41_10, hcz41_11, hcz41_12⟩ := cell13 BK576.out
          obtain ⟨hfz41_0, hfz41_1, hfz41_2, hfz41_3, hfz41_4, hfz41_5, hfz41_6, hfz41_7, hfz41_8, hfz41_9, hfz41_10, hfz41_11, hfz41_12⟩ := froz13 BK576.out
          have hnb42 := NB555_556.out
          have hnc42 := NB556_555.out
          obtain ⟨hcz43_0, hcz43_1, hcz43_2, hcz43_3, hcz43_4, hcz43_5, hcz43_6, hcz43_7, hcz43_8, hcz43_9, hcz43_10, hcz43_11, hcz43_12⟩ := cell13 BK555.out
          obtain ⟨hfz43_0, hfz43_1, hfz43_2, hfz43_3, hfz43_4, hfz43_5, hfz43_6, hfz43_7, hfz43_8, hfz43_9, hfz43_10, hfz43_11, hfz43_12⟩ := froz13 BK555.out
          go_wp2
          go_meet
          case rel => exact ⟨_, (true), (by first | rfl | (simp; done) | (simp [*]; done)), H', ⟨by have := HJ5.out; first | omega | exact Nat.le_refl _⟩, ⟨by (with_reducible repeat (first | refine kN_ ?_ _ | refine kD_ ?_ | refine kA_ ?_ _)); exact BK555.out⟩, ⟨by (with_reducible repeat (first | refine kN_ ?_ _ | refine kD_ ?_ | refine kA_ ?_ _)); exact BK556.out⟩, ⟨by (with_reducible repeat (first | refine kN_ ?_ _ | refine kD_ ?_ | refine kA_ ?_ _)); exact BK576.out⟩, ⟨by repeat (first | (with_reducible first | exact HB.out | apply bA_ | apply bN_ | apply bD_ | refine bS_ ?_ GE555.out | refine bS_ ?_ GE556.out | refine bS_ ?_ GE576.out) | exact HB.out)⟩⟩
         ·rw [if_neg c38] at H
          have c38b0 : (!(t562 == a0_0) || (!(t563 == a0_1) || ((!(t564 == a0_2) || ((!(t565.toList == a0_3.toList) || (!(t566.toList == a0_4.toList) || (!(t567.toList == a0_5.toList) || (!(t568 == a0_6) || (!(t569.toList == a0_7.toList)))))) || (!(t570 == a0_8) || (!(t571 == a0_9) || (!(t572 == a0_10) || (!(t573 == a0_11) || (!(t574.toList == a0_12.toList))))))))))) = false := by simpa using c38
          clear c38
          have H' := Aside0.mk H
          clear H
          have hnb44 := NB576_555.out
          have hnc44 := NB555_576.out
          have hnb45 := NB576_556.out
          have hnc45 := NB556_576.out
          obtain ⟨hcz46_0, hcz46_1, hcz46_2, hcz46_3, hcz46_4, hcz46_5, hcz46_6, hcz46_7, hcz46_8, hcz46_9, hcz46_10, hcz46_11, hcz46_12⟩ := cell13 BK576.out
          obtain ⟨hfz46_0, hfz46_1, hfz46_2, hfz46_3, hfz46_4, hfz46_5, hfz46_6, hfz46_7, hfz46_8, hfz46_9, hfz46_10, hfz46_11, hfz46_12⟩ := froz13 BK576.out
          have hnb47 := NB555_556.out
          have hnc47 := NB556_555.out
          obtain ⟨hcz48_0, hcz48_1, hcz48_2, hcz48_3, hcz48_4, hcz48_5, hcz48_6, hcz48_7, hcz48_8, hcz48_9, hcz48_10, hcz48_11, hcz48_12⟩ := cell13 BK555.out
          obtain ⟨hfz48_0, hfz48_1, hfz48_2, hfz48_3, hfz48_4, hfz48_5, hfz48_6, hfz48_7, hfz48_8, hfz48_9, hfz48_10, hfz48_11, hfz48_12⟩ := froz13 BK555.out
          go_wp2
          go_meet
          case rel => exact ⟨_, ((t578 != 230)), (by first | rfl | (simp; done) | (simp [*]; done)), H', ⟨by have := HJ5.out; first | omega | exact Nat.le_refl _⟩, ⟨by (with_reducible repeat (first | refine kN_ ?_ _ | refine kD_ ?_ | refine kA_ ?_ _)); exact BK555.out⟩, ⟨by (with_reducible repeat (first | refine kN_ ?_ _ | refine kD_ ?_ | refine kA_ ?_ _)); exact BK556.out⟩, ⟨by (with_reducible repeat (first | refine kN_ ?_ _ | refine kD_ ?_ | refine kA_ ?_ _)); exact BK576.out⟩, ⟨by repeat (first | (with_reducible first | exact HB.out | apply bA_ | apply bN_ | apply bD_ | refine bS_ ?_ GE555.out | refine bS_ ?_ GE556.out | refine bS_ ?_ GE576.out) | exact HB.out)⟩⟩
        ·rw [if_neg c37] at H
         have c37b0 : (t575 == 0) = false := beq_eq_false_iff_ne.mpr c37
         have c37b1 : (t575 != 0) = true := bne_iff_ne.mpr c37
         (first | rw [c37b0] | (simp only [i64_w, i32_w]; rw [c37b0]) | skip)
         have H' := Aside0.mk H
         clear H
         go_wp2
         go_meet
         case rel => exact ⟨_, (true), (by first | rfl | (simp; done) | (simp [*]; done)), H', ⟨by have := HJ5.out; first | omega | exact Nat.le_refl _⟩, ⟨by (with_reducible repeat (first | refine kN_ ?_ _ | refine kD_ ?_ | refine kA_ ?_ _)); exact BK555.out⟩, ⟨by (with_reducible repeat (first | refine kN_ ?_ _ | refine kD_ ?_ | refine kA_ ?_ _)); exact BK556.out⟩, ⟨by (with_reducible repeat (first | refine kN_ ?_ _ | refine kD_ ?_ | refine kA_ ?_ _)); exact BK576.out⟩, ⟨by repeat (first | (with_reducible first | exact HB.out | apply bA_ | apply bN_ | apply bD_ | refine bS_ ?_ GE555.out | refine bS_ ?_ GE556.out | refine bS_ ?_ GE576.out) | exact HB.out)⟩⟩
       case rest =>
        clear HC30
        try clear c1
        try clear c2
        try clear p2
        try clear c3
        try clear c4
        try clear c5
        try clear c7
        try clear c8
        try clear c11
        try clear c13
        try clear c17
        try clear c18
        try clear c19
        try clear c21
        try clear c24
        try clear c27
        try clear c27b0
        try clear c27b1
        try clear c33
        try clear c34
        try clear c37
        try clear c37b0
        try clear c37b1
        try clear c38
        try clear c38b0
        try clear c39
        try clear c40
        try clear c42
        try clear c44
        try clear c45
        try clear c47
        try clear hcz14_0
        try clear hcz14_1
        try clear hcz14_10
        try clear hcz14_11
        try clear hcz14_12
        try clear hcz14_2
        try clear hcz14_3
        try clear hcz14_4
        try clear hcz14_5
        try clear hcz14_6
        try clear hcz14_7
        try clear hcz14_8
        try clear hcz14_9
        try clear hcz16_0
        try clear hcz16_1
        try clear hcz16_10
        try clear hcz16_11
        try clear hcz16_12
        try clear hcz16_2
        try clear hcz16_3
        try clear hcz16_4
        try clear hcz16_5
        try clear hcz16_6
        try clear hcz16_7
        try clear hcz16_8
        try clear hcz16_9
        try clear hcz19_0
        try clear hcz19_1
        try clear hcz19_10
        try clear hcz19_11
        try clear hcz19_12
        try clear hcz19_2
        try clear hcz19_3
        try clear hcz19_4
        try clear hcz19_5
        try clear hcz19_6
        try clear hcz19_7
        try clear hcz19_8
        try clear hcz19_9
        try clear hcz25_0
        try clear hcz25_1
        try clear hcz25_10
        try clear hcz25_11
        try clear hcz25_12
        try clear hcz25_2
        try clear hcz25_3
        try clear hcz25_4
        try clear hcz25_5
        try clear hcz25_6
        try clear hcz25_7
        try clear hcz25_8
        try clear hcz25_9
        try clear hcz35_0
        try clear hcz35_1
        try clear hcz35_10
        try clear hcz35_11
        try clear hcz35_12
        try clear hcz35_2
        try clear hcz35_3
        try clear hcz35_4
        try clear hcz35_5
        try clear hcz35_6
        try clear hcz35_7
        try clear hcz35_8
        try clear hcz35_9
        try clear hcz41_0
        try clear hcz41_1
        try clear hcz41_10
        try clear hcz41_11
        try clear hcz41_12
        try clear hcz41_2
        try clear hcz41_3
        try clear hcz41_4
        try clear hcz41_5
        try clear hcz41_6
        try clear hcz41_7
        try clear hcz41_8
        try clear hcz41_9
        try clear hcz43_0
        try clear hcz43_1
        try clear hcz43_10
        try clear hcz43_11
        try clear hcz43_12
        try clear hcz43_2
        try clear hcz43_3
        try clear hcz43_4
        try clear hcz43_5
        try clear hcz43_6
        try clear hcz43_7
        try clear hcz43_8
        try clear hcz43_9
        try clear hcz46_0
        try clear hcz46_1
        try clear hcz46_10
        try clear hcz46_11
        try clear hcz46_12
        try clear hcz46_2
        try clear hcz46_3
        try clear hcz46_4
        try clear hcz46_5
        try clear hcz46_6
        try clear hcz46_7
        try clear hcz46_8
        try clear hcz46_9
        try clear hcz48_0
        try clear hcz48_1
        try clear hcz48_10
        try clear hcz48_11
        try clear hcz48_12
        try clear hcz48_2
        try clear hcz48_3
        try clear hcz48_4
        try clear hcz48_5
        try clear hcz48_6
        try clear hcz48_7
        try clear hcz48_8
        try clear hcz48_9
        try clear hfz14_0
        try clear hfz14_1
        try clear hfz14_10
        try clear hfz14_11
        try clear hfz14_12
        try clear hfz14_2
        try clear hfz14_3
        try clear hfz14_4
        try clear hfz14_5
        try clear hfz14_6
        try clear hfz14_7
        try clear hfz14_8
        try clear hfz14_9
        try clear hfz16_0
        try clear hfz16_1
        try clear hfz16_10
        try clear hfz16_11
        try clear hfz16_12
        try clear hfz16_2
        try clear hfz16_3
        try clear hfz16_4
        try clear hfz16_5
        try clear hfz16_6
        try clear hfz16_7
        try clear hfz16_8
        try clear hfz16_9
        try clear hfz19_0
        try clear hfz19_1
        try clear hfz19_10
        try clear hfz19_11
        try clear hfz19_12
        try clear hfz19_2
        try clear hfz19_3
        try clear hfz19_4
        try clear hfz19_5
        try clear hfz19_6
        try clear hfz19_7
        try clear hfz19_8
        try clear hfz19_9
        try clear hfz25_0
        try clear hfz25_1
        try clear hfz25_10
        try clear hfz25_11
        try clear hfz25_12
        try clear hfz25_2
        try clear hfz25_3
        try clear hfz25_4
        try clear hfz25_5
        try clear hfz25_6
        try clear hfz25_7
        try clear hfz25_8
        try clear hfz25_9
        try clear hfz35_0
        try clear hfz35_1
        try clear hfz35_10
        try clear hfz35_11
        try clear hfz35_12
        try clear hfz35_2
        try clear hfz35_3
        try clear hfz35_4
        try clear hfz35_5
        try clear hfz35_6
        try clear hfz35_7
        try clear hfz35_8
        try clear hfz35_9
        try clear hfz41_0
        try clear hfz41_1
        try clear hfz41_10
        try clear hfz41_11
        try clear hfz41_12
        try clear hfz41_2
        try clear hfz41_3
        try clear hfz41_4
        try clear hfz41_5
        try clear hfz41_6
        try clear hfz41_7
        try clear hfz41_8
        try clear hfz41_9
        try clear hfz43_0
        try clear hfz43_1
        try clear hfz43_10
        try clear hfz43_11
        try clear hfz43_12
        try clear hfz43_2
        try clear hfz43_3
        try clear hfz43_4
        try clear hfz43_5
        try clear hfz43_6
        try clear hfz43_7
        try clear hfz43_8
        try clear hfz43_9
        try clear hfz46_0
        try clear hfz46_1
        try clear hfz46_10
        try clear hfz46_11
        try clear hfz46_12
        try clear hfz46_2
        try clear hfz46_3
        try clear hfz46_4
        try clear hfz46_5
        try clear hfz46_6
        try clear hfz46_7
        try clear hfz46_8
        try clear hfz46_9
        try clear hfz48_0
        try clear hfz48_1
        try clear hfz48_10
        try clear hfz48_11
        try clear hfz48_12
        try clear hfz48_2
        try clear hfz48_3
        try clear hfz48_4
        try clear hfz48_5
        try clear hfz48_6
        try clear hfz48_7
        try clear hfz48_8
        try clear hfz48_9
        try clear p2
        obtain ⟨kq, x60_29, rfl, HA, HJ29, BK555, BK556, BK576, HB⟩ := hcut
        cases kq with
        | zero => exact absurd HA.out (by simp [gonglaw23_TicketBack.j1])
        | succ kj29 =>
         have H := HA.out
         clear HA
         simp only [gonglaw23_TicketBack.j1] at H
         by_cases c49 : x60_29 = true
         ·subst c49
          have H1 : (some false) = some r := by rw [if_pos rfl] at H; exact H
          clear H
          have H := H1
          clear H1
          exact absurd (Option.some.inj H) (by rw [hr_]; decide)
         ·replace c49 := Bool.eq_false_iff.mpr c49
          subst c49
          have H1 : ((ticket_Payload.f kj29 a0_0 a0_1 a0_2 a0_3 a0_4 a0_5 a0_6 a0_7 a0_8 a0_9 a0_10 a0_11 a0_12).bind fun bt579 => ((ticket_Payload.f kj29 a1_0 a1_1 a1_2 a1_3 a1_4 a1_5 a1_6 a1_7 a1_8 a1_9 a1_10 a1_11 a1_12).bind fun bt581 => (if bt579.2 = 0 then (if bt581.2 = 0 then (if a0_1 = a1_1 then (if ((bt579.1.toList == bt581.1.toList) != (a0_2 == a1_2 && ((a0_3.toList == a1_3.toList && (a0_4.toList == a1_4.toList && (a0_5.toList == a1_5.toList && (a0_6 == a1_6 && (a0_7.toList == a1_7.toList))))) && (a0_8 == a1_8 && (a0_9 == a1_9 && (a0_10 == a1_10 && (a0_11 == a1_11 && (a0_12.toList == a1_12.toList)))))))) = true then (some false) else (gonglaw23_TicketBack.j2 kj29 a2)) else (if ((bt579.1.toList == bt581.1.toList) != false) = true then (some false) else (gonglaw23_TicketBack.j2 kj29 a2))) else (gonglaw23_TicketBack.j2 kj29 a2)) else (some false)))) = some r := by rw [if_neg (show ¬ (false = true) by decide)] at H; exact H
          clear H
          have H := H1
          clear H1
          replace H := Option.bind_eq_some_iff.mp H
          obtain ⟨⟨t579, t580⟩, A500, H⟩ := H
          try dsimp only at H
          have A50 := Aside0.mk A500
          clear A500
          replace H := Option.bind_eq_some_iff.mp H
          obtain ⟨⟨t581, t582⟩, A510, H⟩ := H
          try dsimp only at H
          have A51 := Aside0.mk A510
          clear A510
          by_cases c52 : t580 = 0
          ·rw [if_pos c52] at H
           have c52b0 : (t580 == 0) = true := beq_iff_eq.mpr c52
           have c52b1 : (t580 != 0) = false := bne_eq_false_iff_eq.mpr c52
           clear c52
           by_cases c53 : t582 = 0
           ·rw [if_pos c53] at H
            have c53b0 : (t582 == 0) = true := beq_iff_eq.mpr c53
            have c53b1 : (t582 != 0) = false := bne_eq_false_iff_eq.mpr c53
            clear c53
            by_cases c54 : a0_1 = a1_1
            ·rw [if_pos c54] at H
             have c54b0 : (a0_1 == a1_1) = true := beq_iff_eq.mpr c54
             have c54b1 : (a0_1 != a1_1) = false := bne_eq_false_iff_eq.mpr c54
             clear c54
             by_cases c55 : ((t579.toList == t581.toList) != (a0_2 == a1_2 && ((a0_3.toList == a1_3.toList && (a0_4.toList == a1_4.toList && (a0_5.toList == a1_5.toList && (a0_6 == a1_6 && (a0_7.toList == a1_7.toList))))) && (a0_8 == a1_8 && (a0_9 == a1_9 && (a0_10 == a1_10 && (a0_11 == a1_11 && (a0_12.toList == a1_12.toList)))))))) = true
             ·rw [if_pos c55] at H
              have c55b0 : ((t579.toList == t581.toList) != (a0_2 == a1_2 && ((a0_3.toList == a1_3.toList && (a0_4.toList == a1_4.toList && (a0_5.toList == a1_5.toList && (a0_6 == a1_6 && (a0_7.toList == a1_7.toList))))) && (a0_8 == a1_8 && (a0_9 == a1_9 && (a0_10 == a1_10 && (a0_11 == a1_11 && (a0_12.toList == a1_12.toList)))))))) = true := c55
              (try (have c55b1 : decide ((t579.toList == t581.toList) = (a0_2 == a1_2 && ((a0_3.toList == a1_3.toList && (a0_4.toList == a1_4.toList && (a0_5.toList == a1_5.toList && (a0_6 == a1_6 && (a0_7.toList == a1_7.toList))))) && (a0_8 == a1_8 && (a0_9 == a1_9 && (a0_10 == a1_10 && (a0_11 == a1_11 && (a0_12.toList == a1_12.toList)))))))) = false := by simpa using c55))
              (try (have c55b2 : ((t579.toList == t581.toList) == (a0_2 == a1_2 && ((a0_3.toList == a1_3.toList && (a0_4.toList == a1_4.toList && (a0_5.toList == a1_5.toList && (a0_6 == a1_6 && (a0_7.toList == a1_7.toList))))) && (a0_8 == a1_8 && (a0_9 == a1_9 && (a0_10 == a1_10 && (a0_11 == a1_11 && (a0_12.toList == a1_12.toList)))))))) = false := by simpa using c55))
              (try (have c55b3 : ¬ ((t579.toList == t581.toList) = (a0_2 == a1_2 && ((a0_3.toList == a1_3.toList && (a0_4.toList == a1_4.toList && (a0_5.toList == a1_5.toList && (a0_6 == a1_6 && (a0_7.toList == a1_7.toList))))) && (a0_8 == a1_8 && (a0_9 == a1_9 && (a0_10 == a1_10 && (a0_11 == a1_11 && (a0_12.toList == a1_12.toList)))))))) := by simpa using c55))
              clear c55
              obtain rfl := Option.some.inj H
              have hnb56 := NB555_556.out
              have hnc56 := NB556_555.out
              have hnb57 := NB555_576.out
              have hnc57 := NB576_555.out
              obtain ⟨hcz58_0, hcz58_1, hcz58_2, hcz58_3, hcz58_4, hcz58_5, hcz58_6, hcz58_7, hcz58_8, hcz58_9, hcz58_10, hcz58_11, hcz58_12⟩ := cell13 BK555.out
              obtain ⟨hfz58_0, hfz58_1, hfz58_2, hfz58_3, hfz58_4, hfz58_5, hfz58_6, hfz58_7, hfz58_8, hfz58_9, hfz58_10, hfz58_11, hfz58_12⟩ := froz13 BK555.out
              go_wp2_with (first | ((with_reducible refine gC_ (f := 9) rfl ?_); refine goesL_ (some 63) rfl rfl Tryd.func9 (by kernel_rfl) rfl #[.agg #[.int .i64 a0_0, .int .i64 a0_1, .int .i64 a0_2, .string a0_3, .string a0_4, .string a0_5, .int .i64 a0_6, .string a0_7, .int .i64 a0_8, .int .i64 a0_9, .int .i64 a0_10, .bool a0_11, .string a0_12]] rfl (by (try simp only [List.map_toArray, List.map_cons, List.map_nil]); first | done | rfl | (simp only [List.length_drop, List.length_take]; rfl)) ?_; (with_reducible refine (ticket_Payload.calls kj29 a0_0 a0_1 a0_2 a0_3 a0_4 a0_5 a0_6 a0_7 a0_8 a0_9 a0_10 a0_11 a0_12 t579 t580 _ ⟨TabW.now HT.out (by repeat (first | (with_reducible first | exact HB.out | apply bA_ | apply bN_ | apply bD_ | refine bS_ ?_ GE555.out | refine bS_ ?_ GE556.out | refine bS_ ?_ GE576.out) | exact HB.out))⟩ A50.out).mono ?_); rintro e w59 ⟨rfl, hb⟩; refine ⟨_, rfl, ?_⟩; have n0_ := Aside0.mk (kB_ (g := gb555) (o := .cells #[.int .i64 a0_0, .int .i64 a0_1, .int .i64 a0_2, .string a0_3, .string a0_4, .string a0_5, .int .i64 a0_6, .string a0_7, .int .i64 a0_8, .int .i64 a0_9, .int .i64 a0_10, .bool a0_11, .string a0_12] 27 (0, 0)) (by (with_reducible repeat (first | refine kN_ ?_ _ | refine kD_ ?_ | refine kA_ ?_ _)); exact BK555.out) hb); have n1_ := Aside0.mk (kB_ (g := gb556) (o := .cells #[.int .i64 a1_0, .int .i64 a1_1, .int .i64 a1_2, .string a1_3, .string a1_4, .string a1_5, .int .i64 a1_6, .string a1_7, .int .i64 a1_8, .int .i64 a1_9, .int .i64 a1_10, .bool a1_11, .string a1_12] 27 (0, 0)) (by (with_reducible repeat (first | refine kN_ ?_ _ | refine kD_ ?_ | refine kA_ ?_ _)); exact BK556.out) hb); have n2_ := Aside0.mk (kB_ (g := gb576) (o := .cells #[.int .i64 t562, .int .i64 t563, .int .i64 t564, .string t565, .string t566, .string t567, .int .i64 t568, .string t569, .int .i64 t570, .int .i64 t571, .int .i64 t572, .bool t573, .string t574] 27 (0, 0)) (by (with_reducible repeat (first | refine kN_ ?_ _ | refine kD_ ?_ | refine kA_ ?_ _)); exact BK576.out) hb); have n3_ := Aside0.mk (bT_ (by repeat (first | (with_reducible first | exact HB.out | apply bA_ | apply bN_ | apply bD_ | refine bS_ ?_ GE555.out | refine bS_ ?_ GE556.out | refine bS_ ?_ GE576.out) | exact HB.out)) hb); clear BK555; clear BK556; clear BK576; clear HB; have BK555 := n0_; have BK556 := n1_; have BK576 := n2_; have HB := n3_; clear n0_ n1_ n2_ n3_; (try clear hb); (try clear hb2); (try clear hk); (try clear hi); have hnb60 := NB556_576.out; have hnc60 := NB576_556.out; obtain ⟨hcz61_0, hcz61_1, hcz61_2, hcz61_3, hcz61_4, hcz61_5, hcz61_6, hcz61_7, hcz61_8, hcz61_9, hcz61_10, hcz61_11, hcz61_12⟩ := cell13 BK556.out; obtain ⟨hfz61_0, hfz61_1, hfz61_2, hfz61_3, hfz61_4, hfz61_5, hfz61_6, hfz61_7, hfz61_8, hfz61_9, hfz61_10, hfz61_11, hfz61_12⟩ := froz13 BK556.out) | ((with_reducible refine gC_ (f := 9) rfl ?_); refine goesL_ (some 68) rfl rfl Tryd.func9 (by kernel_rfl) rfl #[.agg #[.int .i64 a1_0, .int .i64 a1_1, .int .i64 a1_2, .string a1_3, .string a1_4, .string a1_5, .int .i64 a1_6, .string a1_7, .int .i64 a1_8, .int .i64 a1_9, .int .i64 a1_10, .bool a1_11, .string a1_12]] rfl (by (try simp only [List.map_toArray, List.map_cons, List.map_nil]); first | done | rfl | (simp only [List.length_drop, List.length_take]; rfl)) ?_; (with_reducible refine (ticket_Payload.calls kj29 a1_0 a1_1 a1_2 a1_3 a1_4 a1_5 a1_6 a1_7 a1_8 a1_9 a1_10 a1_11 a1_12 t581 t582 _ ⟨TabW.now HT.out (by repeat (first | (with_reducible first | exact HB.out | apply bA_ | apply bN_ | apply bD_ | refine bS_ ?_ GE555.out | refine bS_ ?_ GE556.out | refine bS_ ?_ GE576.out) | exact HB.out))⟩ A51.out).mono ?_); rintro e w62 ⟨rfl, hb⟩; refine ⟨_, rfl, ?_⟩; have n0_ := Aside0.mk (kB_ (g := gb555) (o := .cells #[.int .i64 a0_0, .int .i64 a0_1, .int .i64 a0_2, .string a0_3, .string a0_4, .string a0_5, .int .i64 a0_6, .string a0_7, .int .i64 a0_8, .int .i64 a0_9, .int .i64 a0_10, .bool a0_11, .string a0_12] 27 (0, 0)) (by (with_reducible repeat (first | refine kN_ ?_ _ | refine kD_ ?_ | refine kA_ ?_ _)); exact BK555.out) hb); have n1_ := Aside0.mk (kB_ (g := gb556) (o := .cells #[.int .i64 a1_0, .int .i64 a1_1, .int .i64 a1_2, .string a1_3, .string a1_4, .string a1_5, .int .i64 a1_6, .string a1_7, .int .i64 a1_8, .int .i64 a1_9, .int .i64 a1_10, .bool a1_11, .string a1_12] 27 (0, 0)) (by (with_reducible repeat (first | refine kN_ ?_ _ | refine kD_ ?_ | refine kA_ ?_ _)); exact BK556.out) hb); have n2_ := Aside0.mk (kB_ (g := gb576) (o := .cells #[.int .i64 t562, .int .i64 t563, .int .i64 t564, .string t565, .string t566, .string t567, .int .i64 t568, .string t569, .int .i64 t570, .int .i64 t571, .int .i64 t572, .bool t573, .string t574] 27 (0, 0)) (by (with_reducible repeat (first | refine kN_ ?_ _ | refine kD_ ?_ | refine kA_ ?_ _)); exact BK576.out) hb); have n3_ := Aside0.mk (bT_ (by repeat (first | (with_reducible first | exact HB.out | apply bA_ | apply bN_ | apply bD_ | refine bS_ ?_ GE555.out | refine bS_ ?_ GE556.out | refine bS_ ?_ GE576.out) | exact HB.out)) hb); clear BK555; clear BK556; clear BK576; clear HB; have BK555 := n0_; have BK556 := n1_; have BK576 := n2_; have HB := n3_; clear n0_ n1_ n2_ n3_; (try clear hb); (try clear hb2); (try clear hk); (try clear hi); obtain ⟨hcz63_0, hcz63_1, hcz63_2, hcz63_3, hcz63_4, hcz63_5, hcz63_6, hcz63_7, hcz63_8, hcz63_9, hcz63_10, hcz63_11, hcz63_12⟩ := cell13 BK555.out; obtain ⟨hfz63_0, hfz63_1, hfz63_2, hfz63_3, hfz63_4, hfz63_5, hfz63_6, hfz63_7, hfz63_8, hfz63_9, hfz63_10, hfz63_11, hfz63_12⟩ := froz13 BK555.out; obtain ⟨hcz64_0, hcz64_1, hcz64_2, hcz64_3, hcz64_4, hcz64_5, hcz64_6, hcz64_7, hcz64_8, hcz64_9, hcz64_10, hcz64_11, hcz64_12⟩ := cell13 BK556.out; obtain ⟨hfz64_0, hfz64_1, hfz64_2, hfz64_3, hfz64_4, hfz64_5, hfz64_6, hfz64_7, hfz64_8, hfz64_9, hfz64_10, hfz64_11, hfz64_12⟩ := froz13 BK556.out))
              go_ret
              exact ⟨by first | rfl | (simp [errW_none, errW_some] <;> rfl) | (simp [*, errW_none, errW_some] <;> rfl), by repeat (first | (with_reducible first | exact HB.out | apply bA_ | apply bN_ | apply bD_ | refine bS_ ?_ GE555.out | refine bS_ ?_ GE556.out | refine bS_ ?_ GE576.out) | exact HB.out)⟩
             ·rw [if_neg c55] at H
              have c55b0 : ((t579.toList == t581.toList) != (a0_2 == a1_2 && ((a0_3.toList == a1_3.toList && (a0_4.toList == a1_4.toList && (a0_5.toList == a1_5.toList && (a0_6 == a1_6 && (a0_7.toList == a1_7.toList))))) && (a0_8 == a1_8 && (a0_9 == a1_9 && (a0_10 == a1_10 && (a0_11 == a1_11 && (a0_12.toList == a1_12.toList)))))))) = false := by simpa using c55
              (try (have c55b1 : decide ((t579.toList == t581.toList) = (a0_2 == a1_2 && ((a0_3.toList == a1_3.toList && (a0_4.toList == a1_4.toList && (a0_5.toList == a1_5.toList && (a0_6 == a1_6 && (a0_7.toList == a1_7.toList))))) && (a0_8 == a1_8 && (a0_9 == a1_9 && (a0_10 == a1_10 && (a0_11 == a1_11 && (a0_12.toList == a1_12.toList)))))))) = true := by simpa using c55))
              (try (have c55b2 : ((t579.toList == t581.toList) == (a0_2 == a1_2 && ((a0_3.toList == a1_3.toList && (a0_4.toList == a1_4.toList && (a0_5.toList == a1_5.toList && (a0_6 == a1_6 && (a0_7.toList == a1_7.toList))))) && (a0_8 == a1_8 && (a0_9 == a1_9 && (a0_10 == a1_10 && (a0_11 == a1_11 && (a0_12.toList == a1_12.toList)))))))) = true := by simpa using c55))
              clear c55
              have H' := Aside0.mk H
              clear H
              have hnb65 := NB555_556.out
              have hnc65 := NB556_555.out
              have hnb66 := NB555_576.out
              have hnc66 := NB576_555.out
              obtain ⟨hcz67_0, hcz67_1, hcz67_2, hcz67_3, hcz67_4, hcz67_5, hcz67_6, hcz67_7, hcz67_8, hcz67_9, hcz67_10, hcz67_11, hcz67_12⟩ := cell13 BK555.out
              obtain ⟨hfz67_0, hfz67_1, hfz67_2, hfz67_3, hfz67_4, hfz67_5, hfz67_6, hfz67_7, hfz67_8, hfz67_9, hfz67_10, hfz67_11, hfz67_12⟩ := froz13 BK555.out
              go_wp2_with (first | ((with_reducible refine gC_ (f := 9) rfl ?_); refine goesL_ (some 63) rfl rfl Tryd.func9 (by kernel_rfl) rfl #[.agg #[.int .i64 a0_0, .int .i64 a0_1, .int .i64 a0_2, .string a0_3, .string a0_4, .string a0_5, .int .i64 a0_6, .string a0_7, .int .i64 a0_8, .int .i64 a0_9, .int .i64 a0_10, .bool a0_11, .string a0_12]] rfl (by (try simp only [List.map_toArray, List.map_cons, List.map_nil]); first | done | rfl | (simp only [List.length_drop, List.length_take]; rfl)) ?_; (with_reducible refine (ticket_Payload.calls kj29 a0_0 a0_1 a0_2 a0_3 a0_4 a0_5 a0_6 a0_7 a0_8 a0_9 a0_10 a0_11 a0_12 t579 t580 _ ⟨TabW.now HT.out (by repeat (first | (with_reducible first | exact HB.out | apply bA_ | apply bN_ | apply bD_ | refine bS_ ?_ GE555.out | refine bS_ ?_ GE556.out | refine bS_ ?_ GE576.out) | exact HB.out))⟩ A50.out).mono ?_); rintro e w68 ⟨rfl, hb⟩; refine ⟨_, rfl, ?_⟩; have n0_ := Aside0.mk (kB_ (g := gb555) (o := .cells #[.int .i64 a0_0, .int .i64 a0_1, .int .i64 a0_2, .string a0_3, .string a0_4, .string a0_5, .int .i64 a0_6, .string a0_7, .int .i64 a0_8, .int .i64 a0_9, .int .i64 a0_10, .bool a0_11, .string a0_12] 27 (0, 0)) (by (with_reducible repeat (first | refine kN_ ?_ _ | refine kD_ ?_ | refine kA_ ?_ _)); exact BK555.out) hb); have n1_ := Aside0.mk (kB_ (g := gb556) (o := .cells #[.int .i64 a1_0, .int .i64 a1_1, .int .i64 a1_2, .string a1_3, .string a1_4, .string a1_5, .int .i64 a1_6, .string a1_7, .int .i64 a1_8, .int .i64 a1_9, .int .i64 a1_10, .bool a1_11, .string a1_12] 27 (0, 0)) (by (with_reducible repeat (first | refine kN_ ?_ _ | refine kD_ ?_ | refine kA_ ?_ _)); exact BK556.out) hb); have n2_ := Aside0.mk (kB_ (g := gb576) (o := .cells #[.int .i64 t562, .int .i64 t563, .int .i64 t564, .string t565, .string t566, .string t567, .int .i64 t568, .string t569, .int .i64 t570, .int .i64 t571, .int .i64 t572, .bool t573, .string t574] 27 (0, 0)) (by (with_reducible repeat (first | refine kN_ ?_ _ | refine kD_ ?_ | refine kA_ ?_ _)); exact BK576.out) hb); have n3_ := Aside0.mk (bT_ (by repeat (first | (with_reducible first | exact HB.out | apply bA_ | apply bN_ | apply bD_ | refine bS_ ?_ GE555.out | refine bS_ ?_ GE556.out | refine bS_ ?_ GE576.out) | exact HB.out)) hb); clear BK555; clear BK556; clear BK576; clear HB; have BK555 := n0_; have BK556 := n1_; have BK576 := n2_; have HB := n3_; clear n0_ n1_ n2_ n3_; (try clear hb); (try clear hb2); (try clear hk); (try clear hi); have hnb69 := NB556_576.out; have hnc69 := NB576_556.out; obtain ⟨hcz70_0, hcz70_1, hcz70_2, hcz70_3, hcz70_4, hcz70_5, hcz70_6, hcz70_7, hcz70_8, hcz70_9, hcz70_10, hcz70_11, hcz70_12⟩ := cell13 BK556.out; obtain ⟨hfz70_0, hfz70_1, hfz70_2, hfz70_3, hfz70_4, hfz70_5, hfz70_6, hfz70_7, hfz70_8, hfz70_9, hfz70_10, hfz70_11, hfz70_12⟩ := froz13 BK556.out) | ((with_reducible refine gC_ (f := 9) rfl ?_); refine goesL_ (some 68) rfl rfl Tryd.func9 (by kernel_rfl) rfl #[.agg #[.int .i64 a1_0, .int .i64 a1_1, .int .i64 a1_2, .string a1_3, .string a1_4, .string a1_5, .int .i64 a1_6, .string a1_7, .int .i64 a1_8, .int .i64 a1_9, .int .i64 a1_10, .bool a1_11, .string a1_12]] rfl (by (try simp only [List.map_toArray, List.map_cons, List.map_nil]); first | done | rfl | (simp only [List.length_drop, List.length_take]; rfl)) ?_; (with_reducible refine (ticket_Payload.calls kj29 a1_0 a1_1 a1_2 a1_3 a1_4 a1_5 a1_6 a1_7 a1_8 a1_9 a1_10 a1_11 a1_12 t581 t582 _ ⟨TabW.now HT.out (by repeat (first | (with_reducible first | exact HB.out | apply bA_ | apply bN_ | apply bD_ | refine bS_ ?_ GE555.out | refine bS_ ?_ GE556.out | refine bS_ ?_ GE576.out) | exact HB.out))⟩ A51.out).mono ?_); rintro e w71 ⟨rfl, hb⟩; refine ⟨_, rfl, ?_⟩; have n0_ := Aside0.mk (kB_ (g := gb555) (o := .cells #[.int .i64 a0_0, .int .i64 a0_1, .int .i64 a0_2, .string a0_3, .string a0_4, .string a0_5, .int .i64 a0_6, .string a0_7, .int .i64 a0_8, .int .i64 a0_9, .int .i64 a0_10, .bool a0_11, .string a0_12] 27 (0, 0)) (by (with_reducible repeat (first | refine kN_ ?_ _ | refine kD_ ?_ | refine kA_ ?_ _)); exact BK555.out) hb); have n1_ := Aside0.mk (kB_ (g := gb556) (o := .cells #[.int .i64 a1_0, .int .i64 a1_1, .int .i64 a1_2, .string a1_3, .string a1_4, .string a1_5, .int .i64 a1_6, .string a1_7, .int .i64 a1_8, .int .i64 a1_9, .int .i64 a1_10, .bool a1_11, .string a1_12] 27 (0, 0)) (by (with_reducible repeat (first | refine kN_ ?_ _ | refine kD_ ?_ | refine kA_ ?_ _)); exact BK556.out) hb); have n2_ := Aside0.mk (kB_ (g := gb576) (o := .cells #[.int .i64 t562, .int .i64 t563, .int .i64 t564, .string t565, .string t566, .string t567, .int .i64 t568, .string t569, .int .i64 t570, .int .i64 t571, .int .i64 t572, .bool t573, .string t574] 27 (0, 0)) (by (with_reducible repeat (first | refine kN_ ?_ _ | refine kD_ ?_ | refine kA_ ?_ _)); exact BK576.out) hb); have n3_ := Aside0.mk (bT_ (by repeat (first | (with_reducible first | exact HB.out | apply bA_ | apply bN_ | apply bD_ | refine bS_ ?_ GE555.out | refine bS_ ?_ GE556.out | refine bS_ ?_ GE576.out) | exact HB.out)) hb); clear BK555; clear BK556; clear BK576; clear HB; have BK555 := n0_; have BK556 := n1_; have BK576 := n2_; have HB := n3_; clear n0_ n1_ n2_ n3_; (try clear hb); (try clear hb2); (try clear hk); (try clear hi); obtain ⟨hcz72_0, hcz72_1, hcz72_2, hcz72_3, hcz72_4, hcz72_5, hcz72_6, hcz72_7, hcz72_8, hcz72_9, hcz72_10, hcz72_11, hcz72_12⟩ := cell13 BK555.out; obtain ⟨hfz72_0, hfz72_1, hfz72_2, hfz72_3, hfz72_4, hfz72_5, hfz72_6, hfz72_7, hfz72_8, hfz72_9, hfz72_10, hfz72_11, hfz72_12⟩ := froz13 BK555.out; obtain ⟨hcz73_0, hcz73_1, hcz73_2, hcz73_3, hcz73_4, hcz73_5, hcz73_6, hcz73_7, hcz73_8, hcz73_9, hcz73_10, hcz73_11, hcz73_12⟩ := cell13 BK556.out; obtain ⟨hfz73_0, hfz73_1, hfz73_2, hfz73_3, hfz73_4, hfz73_5, hfz73_6, hfz73_7, hfz73_8, hfz73_9, hfz73_10, hfz73_11, hfz73_12⟩ := froz13 BK556.out))
              go_meet
              case rel => exact ⟨_, H', ⟨by have := HJ5.out; have := HJ29.out; first | omega | exact Nat.le_refl _⟩, ⟨by (with_reducible repeat (first | refine kN_ ?_ _ | refine kD_ ?_ | refine kA_ ?_ _)); exact BK555.out⟩, ⟨by (with_reducible repeat (first | refine kN_ ?_ _ | refine kD_ ?_ | refine kA_ ?_ _)); exact BK556.out⟩, ⟨by repeat (first | (with_reducible first | exact HB.out | apply bA_ | apply bN_ | apply bD_ | refine bS_ ?_ GE555.out | refine bS_ ?_ GE556.out | refine bS_ ?_ GE576.out) | exact HB.out)⟩⟩
            ·rw [if_neg c54] at H
             have c54b0 : (a0_1 == a1_1) = false := beq_eq_false_iff_ne.mpr c54
             have c54b1 : (a0_1 != a1_1) = true := bne_iff_ne.mpr c54
             by_cases c74 : ((t579.toList == t581.toList) != false) = true
             ·rw [if_pos c74] at H
              have c74b0 : ((t579.toList == t581.toList) != false) = true := c74
              (try (have c74b1 : decide ((t579.toList == t581.toList) = false) = false := by simpa using c74))
              (try (have c74b2 : ((t579.toList == t581.toList) == false) = false := by simpa using c74))
              (try (have c74b3 : ¬ ((t579.toList == t581.toList) = false) := by simpa using c74))
              clear c74
              obtain rfl := Option.some.inj H
              have hnb75 := NB555_556.out
              have hnc75 := NB556_555.out
              have hnb76 := NB555_576.out
              have hnc76 := NB576_555.out
              obtain ⟨hcz77_0, hcz77_1, hcz77_2, hcz77_3, hcz77_4, hcz77_5, hcz77_6, hcz77_7, hcz77_8, hcz77_9, hcz77_10, hcz77_11, hcz77_12⟩ := cell13 BK555.out
              obtain ⟨hfz77_0, hfz77_1, hfz77_2, hfz77_3, hfz77_4, hfz77_5, hfz77_6, hfz77_7, hfz77_8, hfz77_9, hfz77_10, hfz77_11, hfz77_12⟩ := froz13 BK555.out
              go_wp2_with (first | ((with_reducible refine gC_ (f := 9) rfl ?_); refine goesL_ (some 63) rfl rfl Tryd.func9 (by kernel_rfl) rfl #[.agg #[.int .i64 a0_0, .int .i64 a0_1, .int .i64 a0_2, .string a0_3, .string a0_4, .string a0_5, .int .i64 a0_6, .string a0_7, .int .i64 a0_8, .int .i64 a0_9, .int .i64 a0_10, .bool a0_11, .string a0_12]] rfl (by (try simp only [List.map_toArray, List.map_cons, List.map_nil]); first | done | rfl | (simp only [List.length_drop, List.length_take]; rfl)) ?_; (with_reducible refine (ticket_Payload.calls kj29 a0_0 a0_1 a0_2 a0_3 a0_4 a0_5 a0_6 a0_7 a0_8 a0_9 a0_10 a0_11 a0_12 t579 t580 _ ⟨TabW.now HT.out (by repeat (first | (with_reducible first | exact HB.out | apply bA_ | apply bN_ | apply bD_ | refine bS_ ?_ GE555.out | refine bS_ ?_ GE556.out | refine bS_ ?_ GE576.out) | exact HB.out))⟩ A50.out).mono ?_); rintro e w78 ⟨rfl, hb⟩; refine ⟨_, rfl, ?_⟩; have n0_ := Aside0.mk (kB_ (g := gb555) (o := .cells #[.int .i64 a0_0, .int .i64 a0_1, .int .i64 a0_2, .string a0_3, .string a0_4, .string a0_5, .int .i64 a0_6, .string a0_7, .int .i64 a0_8, .int .i64 a0_9, .int .i64 a0_10, .bool a0_11, .string a0_12] 27 (0, 0)) (by (with_reducible repeat (first | refine kN_ ?_ _ | refine kD_ ?_ | refine kA_ ?_ _)); exact BK555.out) hb); have n1_ := Aside0.mk (kB_ (g := gb556) (o := .cells #[.int .i64 a1_0, .int .i64 a1_1, .int .i64 a1_2, .string a1_3, .string a1_4, .string a1_5, .int .i64 a1_6, .string a1_7, .int .i64 a1_8, .int .i64 a1_9, .int .i64 a1_10, .bool a1_11, .string a1_12] 27 (0, 0)) (by (with_reducible repeat (first | refine kN_ ?_ _ | refine kD_ ?_ | refine kA_ ?_ _)); exact BK556.out) hb); have n2_ := Aside0.mk (kB_ (g := gb576) (o := .cells #[.int .i64 t562, .int .i64 t563, .int .i64 t564, .string t565, .string t566, .string t567, .int .i64 t568, .string t569, .int .i64 t570, .int .i64 t571, .int .i64 t572, .bool t573, .string t574] 27 (0, 0)) (by (with_reducible repeat (first | refine kN_ ?_ _ | refine kD_ ?_ | refine kA_ ?_ _)); exact BK576.out) hb); have n3_ := Aside0.mk (bT_ (by repeat (first | (with_reducible first | exact HB.out | apply bA_ | apply bN_ | apply bD_ | refine bS_ ?_ GE555.out | refine bS_ ?_ GE556.out | refine bS_ ?_ GE576.out) | exact HB.out)) hb); clear BK555; clear BK556; clear BK576; clear HB; have BK555 := n0_; have BK556 := n1_; have BK576 := n2_; have HB := n3_; clear n0_ n1_ n2_ n3_; (try clear hb); (try clear hb2); (try clear hk); (try clear hi); have hnb79 := NB556_576.out; have hnc79 := NB576_556.out; obtain ⟨hcz80_0, hcz80_1, hcz80_2, hcz80_3, hcz80_4, hcz80_5, hcz80_6, hcz80_7, hcz80_8, hcz80_9, hcz80_10, hcz80_11, hcz80_12⟩ := cell13 BK556.out; obtain ⟨hfz80_0, hfz80_1, hfz80_2, hfz80_3, hfz80_4, hfz80_5, hfz80_6, hfz80_7, hfz80_8, hfz80_9, hfz80_10, hfz80_11, hfz80_12⟩ := froz13 BK556.out) | ((with_reducible refine gC_ (f := 9) rfl ?_); refine goesL_ (some 68) rfl rfl Tryd.func9 (by kernel_rfl) rfl #[.agg #[.int .i64 a1_0, .int .i64 a1_1, .int .i64 a1_2, .string a1_3, .string a1_4, .string a1_5, .int .i64 a1_6, .string a1_7, .int .i64 a1_8, .int .i64 a1_9, .int .i64 a1_10, .bool a1_11, .string a1_12]] rfl (by (try simp only [List.map_toArray, List.map_cons, List.map_nil]); first | done | rfl | (simp only [List.length_drop, List.length_take]; rfl)) ?_; (with_reducible refine (ticket_Payload.calls kj29 a1_0 a1_1 a1_2 a1_3 a1_4 a1_5 a1_6 a1_7 a1_8 a1_9 a1_10 a1_11 a1_12 t581 t582 _ ⟨TabW.now HT.out (by repeat (first | (with_reducible first | exact HB.out | apply bA_ | apply bN_ | apply bD_ | refine bS_ ?_ GE555.out | refine bS_ ?_ GE556.out | refine bS_ ?_ GE576.out) | exact HB.out))⟩ A51.out).mono ?_); rintro e w81 ⟨rfl, hb⟩; refine ⟨_, rfl, ?_⟩; have n0_ := Aside0.mk (kB_ (g := gb555) (o := .cells #[.int .i64 a0_0, .int .i64 a0_1, .int .i64 a0_2, .string a0_3, .string a0_4, .string a0_5, .int .i64 a0_6, .string a0_7, .int .i64 a0_8, .int .i64 a0_9, .int .i64 a0_10, .bool a0_11, .string a0_12] 27 (0, 0)) (by (with_reducible repeat (first | refine kN_ ?_ _ | refine kD_ ?_ | refine kA_ ?_ _)); exact BK555.out) hb); have n1_ := Aside0.mk (kB_ (g := gb556) (o := .cells #[.int .i64 a1_0, .int .i64 a1_1, .int .i64 a1_2, .string a1_3, .string a1_4, .string a1_5, .int .i64 a1_6, .string a1_7, .int .i64 a1_8, .int .i64 a1_9, .int .i64 a1_10, .bool a1_11, .string a1_12] 27 (0, 0)) (by (with_reducible repeat (first | refine kN_ ?_ _ | refine kD_ ?_ | refine kA_ ?_ _)); exact BK556.out) hb); have n2_ := Aside0.mk (kB_ (g := gb576) (o := .cells #[.int .i64 t562, .int .i64 t563, .int .i64 t564, .string t565, .string t566, .string t567, .int .i64 t568, .string t569, .int .i64 t570, .int .i64 t571, .int .i64 t572, .bool t573, .string t574] 27 (0, 0)) (by (with_reducible repeat (first | refine kN_ ?_ _ | refine kD_ ?_ | refine kA_ ?_ _)); exact BK576.out) hb); have n3_ := Aside0.mk (bT_ (by repeat (first | (with_reducible first | exact HB.out | apply bA_ | apply bN_ | apply bD_ | refine bS_ ?_ GE555.out | refine bS_ ?_ GE556.out | refine bS_ ?_ GE576.out) | exact HB.out)) hb); clear BK555; clear BK556; clear BK576; clear HB; have BK555 := n0_; have BK556 := n1_; have BK576 := n2_; have HB := n3_; clear n0_ n1_ n2_ n3_; (try clear hb); (try clear hb2); (try clear hk); (try clear hi); obtain ⟨hcz82_0, hcz82_1, hcz82_2, hcz82_3, hcz82_4, hcz82_5, hcz82_6, hcz82_7, hcz82_8, hcz82_9, hcz82_10, hcz82_11, hcz82_12⟩ := cell13 BK555.out; obtain ⟨hfz82_0, hfz82_1, hfz82_2, hfz82_3, hfz82_4, hfz82_5, hfz82_6, hfz82_7, hfz82_8, hfz82_9, hfz82_10, hfz82_11, hfz82_12⟩ := froz13 BK555.out; obtain ⟨hcz83_0, hcz83_1, hcz83_2, hcz83_3, hcz83_4, hcz83_5, hcz83_6, hcz83_7, hcz83_8, hcz83_9, hcz83_10, hcz83_11, hcz83_12⟩ := cell13 BK556.out; obtain ⟨hfz83_0, hfz83_1, hfz83_2, hfz83_3, hfz83_4, hfz83_5, hfz83_6, hfz83_7, hfz83_8, hfz83_9, hfz83_10, hfz83_11, hfz83_12⟩ := froz13 BK556.out))
              go_ret
              exact ⟨by first | rfl | (simp [errW_none, errW_some] <;> rfl) | (simp [*, errW_none, errW_some] <;> rfl), by repeat (first | (with_reducible first | exact HB.out | apply bA_ | apply bN_ | apply bD_ | refine bS_ ?_ GE555.out | refine bS_ ?_ GE556.out | refine bS_ ?_ GE576.out) | exact HB.out)⟩
             ·rw [if_neg c74] at H
              have c74b0 : ((t579.toList == t581.toList) != false) = false := by simpa using c74
              (try (have c74b1 : decide ((t579.toList == t581.toList) = false) = true := by simpa using c74))
              (try (have c74b2 : ((t579.toList == t581.toList) == false) = true := by simpa using c74))
              clear c74
              have H' := Aside0.mk H
              clear H
              have hnb84 := NB555_556.out
              have hnc84 := NB556_555.out
              have hnb85 := NB555_576.out
              have hnc85 := NB576_555.out
              obtain ⟨hcz86_0, hcz86_1, hcz86_2, hcz86_3, hcz86_4, hcz86_5, hcz86_6, hcz86_7, hcz86_8, hcz86_9, hcz86_10, hcz86_11, hcz86_12⟩ := cell13 BK555.out
              obtain ⟨hfz86_0, hfz86_1, hfz86_2, hfz86_3, hfz86_4, hfz86_5, hfz86_6, hfz86_7, hfz86_8, hfz86_9, hfz86_10, hfz86_11, hfz86_12⟩ := froz13 BK555.out
              go_wp2_with (first | ((with_reducible refine gC_ (f := 9) rfl ?_); refine goesL_ (some 63) rfl rfl Tryd.func9 (by kernel_rfl) rfl #[.agg #[.int .i64 a0_0, .int .i64 a0_1, .int .i64 a0_2, .string a0_3, .string a0_4, .string a0_5, .int .i64 a0_6, .string a0_7, .int .i64 a0_8, .int .i64 a0_9, .int .i64 a0_10, .bool a0_11, .string a0_12]] rfl (by (try simp only [List.map_toArray, List.map_cons, List.map_nil]); first | done | rfl | (simp only [List.length_drop, List.length_take]; rfl)) ?_; (with_reducible refine (ticket_Payload.calls kj29 a0_0 a0_1 a0_2 a0_3 a0_4 a0_5 a0_6 a0_7 a0_8 a0_9 a0_10 a0_11 a0_12 t579 t580 _ ⟨TabW.now HT.out (by repeat (first | (with_reducible first | exact HB.out | apply bA_ | apply bN_ | apply bD_ | refine bS_ ?_ GE555.out | refine bS_ ?_ GE556.out | refine bS_ ?_ GE576.out) | exact HB.out))⟩ A50.out).mono ?_); rintro e w87 ⟨rfl, hb⟩; refine ⟨_, rfl, ?_⟩; have n0_ := Aside0.mk (kB_ (g := gb555) (o := .cells #[.int .i64 a0_0, .int .i64 a0_1, .int .i64 a0_2, .string a0_3, .string a0_4, .string a0_5, .int .i64 a0_6, .string a0_7, .int .i64 a0_8, .int .i64 a0_9, .int .i64 a0_10, .bool a0_11, .string a0_12] 27 (0, 0)) (by (with_reducible repeat (first | refine kN_ ?_ _ | refine kD_ ?_ | refine kA_ ?_ _)); exact BK555.out) hb); have n1_ := Aside0.mk (kB_ (g := gb556) (o := .cells #[.int .i64 a1_0, .int .i64 a1_1, .int .i64 a1_2, .string a1_3, .string a1_4, .string a1_5, .int .i64 a1_6, .string a1_7, .int .i64 a1_8, .int .i64 a1_9, .int .i64 a1_10, .bool a1_11, .string a1_12] 27 (0, 0)) (by (with_reducible repeat (first | refine kN_ ?_ _ | refine kD_ ?_ | refine kA_ ?_ _)); exact BK556.out) hb); have n2_ := Aside0.mk (kB_ (g := gb576) (o := .cells #[.int .i64 t562, .int .i64 t563, .int .i64 t564, .string t565, .string t566, .string t567, .int .i64 t568, .string t569, .int .i64 t570, .int .i64 t571, .int .i64 t572, .bool t573, .string t574] 27 (0, 0)) (by (with_reducible repeat (first | refine kN_ ?_ _ | refine kD_ ?_ | refine kA_ ?_ _)); exact BK576.out) hb); have n3_ := Aside0.mk (bT_ (by repeat (first | (with_reducible first | exact HB.out | apply bA_ | apply bN_ | apply bD_ | refine bS_ ?_ GE555.out | refine bS_ ?_ GE556.out | refine bS_ ?_ GE576.out) | exact HB.out)) hb); clear BK555; clear BK556; clear BK576; clear HB; have BK555 := n0_; have BK556 := n1_; have BK576 := n2_; have HB := n3_; clear n0_ n1_ n2_ n3_; (try clear hb); (try clear hb2); (try clear hk); (try clear hi); have hnb88 := NB556_576.out; have hnc88 := NB576_556.out; obtain ⟨hcz89_0, hcz89_1, hcz89_2, hcz89_3, hcz89_4, hcz89_5, hcz89_6, hcz89_7, hcz89_8, hcz89_9, hcz89_10, hcz89_11, hcz89_12⟩ := cell13 BK556.out; obtain ⟨hfz89_0, hfz89_1, hfz89_2, hfz89_3, hfz89_4, hfz89_5, hfz89_6, hfz89_7, hfz89_8, hfz89_9, hfz89_10, hfz89_11, hfz89_12⟩ := froz13 BK556.out) | ((with_reducible refine gC_ (f := 9) rfl ?_); refine goesL_ (some 68) rfl rfl Tryd.func9 (by kernel_rfl) rfl #[.agg #[.int .i64 a1_0, .int .i64 a1_1, .int .i64 a1_2, .string a1_3, .string a1_4, .string a1_5, .int .i64 a1_6, .string a1_7, .int .i64 a1_8, .int .i64 a1_9, .int .i64 a1_10, .bool a1_11, .string a1_12]] rfl (by (try simp only [List.map_toArray, List.map_cons, List.map_nil]); first | done | rfl | (simp only [List.length_drop, List.length_take]; rfl)) ?_; (with_reducible refine (ticket_Payload.calls kj29 a1_0 a1_1 a1_2 a1_3 a1_4 a1_5 a1_6 a1_7 a1_8 a1_9 a1_10 a1_11 a1_12 t581 t582 _ ⟨TabW.now HT.out (by repeat (first | (with_reducible first | exact HB.out | apply bA_ | apply bN_ | apply bD_ | refine bS_ ?_ GE555.out | refine bS_ ?_ GE556.out | refine bS_ ?_ GE576.out) | exact HB.out))⟩ A51.out).mono ?_); rintro e w90 ⟨rfl, hb⟩; refine ⟨_, rfl, ?_⟩; have n0_ := Aside0.mk (kB_ (g := gb555) (o := .cells #[.int .i64 a0_0, .int .i64 a0_1, .int .i64 a0_2, .string a0_3, .string a0_4, .string a0_5, .int .i64 a0_6, .string a0_7, .int .i64 a0_8, .int .i64 a0_9, .int .i64 a0_10, .bool a0_11, .string a0_12] 27 (0, 0)) (by (with_reducible repeat (first | refine kN_ ?_ _ | refine kD_ ?_ | refine kA_ ?_ _)); exact BK555.out) hb); have n1_ := Aside0.mk (kB_ (g := gb556) (o := .cells #[.int .i64 a1_0, .int .i64 a1_1, .int .i64 a1_2, .string a1_3, .string a1_4, .string a1_5, .int .i64 a1_6, .string a1_7, .int .i64 a1_8, .int .i64 a1_9, .int .i64 a1_10, .bool a1_11, .string a1_12] 27 (0, 0)) (by (with_reducible repeat (first | refine kN_ ?_ _ | refine kD_ ?_ | refine kA_ ?_ _)); exact BK556.out) hb); have n2_ := Aside0.mk (kB_ (g := gb576) (o := .cells #[.int .i64 t562, .int .i64 t563, .int .i64 t564, .string t565, .string t566, .string t567, .int .i64 t568, .string t569, .int .i64 t570, .int .i64 t571, .int .i64 t572, .bool t573, .string t574] 27 (0, 0)) (by (with_reducible repeat (first | refine kN_ ?_ _ | refine kD_ ?_ | refine kA_ ?_ _)); exact BK576.out) hb); have n3_ := Aside0.mk (bT_ (by repeat (first | (with_reducible first | exact HB.out | apply bA_ | apply bN_ | apply bD_ | refine bS_ ?_ GE555.out | refine bS_ ?_ GE556.out | refine bS_ ?_ GE576.out) | exact HB.out)) hb); clear BK555; clear BK556; clear BK576; clear HB; have BK555 := n0_; have BK556 := n1_; have BK576 := n2_; have HB := n3_; clear n0_ n1_ n2_ n3_; (try clear hb); (try clear hb2); (try clear hk); (try clear hi); obtain ⟨hcz91_0, hcz91_1, hcz91_2, hcz91_3, hcz91_4, hcz91_5, hcz91_6, hcz91_7, hcz91_8, hcz91_9, hcz91_10, hcz91_11, hcz91_12⟩ := cell13 BK555.out; obtain ⟨hfz91_0, hfz91_1, hfz91_2, hfz91_3, hfz91_4, hfz91_5, hfz91_6, hfz91_7, hfz91_8, hfz91_9, hfz91_10, hfz91_11, hfz91_12⟩ := froz13 BK555.out; obtain ⟨hcz92_0, hcz92_1, hcz92_2, hcz92_3, hcz92_4, hcz92_5, hcz92_6, hcz92_7, hcz92_8, hcz92_9, hcz92_10, hcz92_11, hcz92_12⟩ := cell13 BK556.out; obtain ⟨hfz92_0, hfz92_1, hfz92_2, hfz92_3, hfz92_4, hfz92_5, hfz92_6, hfz92_7, hfz92_8, hfz92_9, hfz92_10, hfz92_11, hfz92_12⟩ := froz13 BK556.out))
              go_meet
              case rel => exact ⟨_, H', ⟨by have := HJ5.out; have := HJ29.out; first | omega | exact Nat.le_refl _⟩, ⟨by (with_reducible repeat (first | refine kN_ ?_ _ | refine kD_ ?_ | refine kA_ ?_ _)); exact BK555.out⟩, ⟨by (with_reducible repeat (first | refine kN_ ?_ _ | refine kD_ ?_ | refine kA_ ?_ _)); exact BK556.out⟩, ⟨by repeat (first | (with_reducible first | exact HB.out | apply bA_ | apply bN_ | apply bD_ | refine bS_ ?_ GE555.out | refine bS_ ?_ GE556.out | refine bS_ ?_ GE576.out) | exact HB.out)⟩⟩
           ·rw [if_neg c53] at H
            have c53b0 : (t582 == 0) = false := beq_eq_false_iff_ne.mpr c53
            have c53b1 : (t582 != 0) = true := bne_iff_ne.mpr c53
            have H' := Aside0.mk H
            clear H
            have hnb93 := NB555_556.out
            have hnc93 := NB556_555.out
            have hnb94 := NB555_576.out
            have hnc94 := NB576_555.out
            obtain ⟨hcz95_0, hcz95_1, hcz95_2, hcz95_3, hcz95_4, hcz95_5, hcz95_6, hcz95_7, hcz95_8, hcz95_9, hcz95_10, hcz95_11, hcz95_12⟩ := cell13 BK555.out
            obtain ⟨hfz95_0, hfz95_1, hfz95_2, hfz95_3, hfz95_4, hfz95_5, hfz95_6, hfz95_7, hfz95_8, hfz95_9, hfz95_10, hfz95_11, hfz95_12⟩ := froz13 BK555.out
            go_wp2_with (first | ((with_reducible refine gC_ (f := 9) rfl ?_); refine goesL_ (some 63) rfl rfl Tryd.func9 (by kernel_rfl) rfl #[.agg #[.int .i64 a0_0, .int .i64 a0_1, .int .i64 a0_2, .string a0_3, .string a0_4, .string a0_5, .int .i64 a0_6, .string a0_7, .int .i64 a0_8, .int .i64 a0_9, .int .i64 a0_10, .bool a0_11, .string a0_12]] rfl (by (try simp only [List.map_toArray, List.map_cons, List.map_nil]); first | done | rfl | (simp only [List.length_drop, List.length_take]; rfl)) ?_; (with_reducible refine (ticket_Payload.calls kj29 a0_0 a0_1 a0_2 a0_3 a0_4 a0_5 a0_6 a0_7 a0_8 a0_9 a0_10 a0_11 a0_12 t579 t580 _ ⟨TabW.now HT.out (by repeat (first | (with_reducible first | exact HB.out | apply bA_ | apply bN_ | apply bD_ | refine bS_ ?_ GE555.out | refine bS_ ?_ GE556.out | refine bS_ ?_ GE576.out) | exact HB.out))⟩ A50.out).mono ?_); rintro e w96 ⟨rfl, hb⟩; refine ⟨_, rfl, ?_⟩; have n0_ := Aside0.mk (kB_ (g := gb555) (o := .cells #[.int .i64 a0_0, .int .i64 a0_1, .int .i64 a0_2, .string a0_3, .string a0_4, .string a0_5, .int .i64 a0_6, .string a0_7, .int .i64 a0_8, .int .i64 a0_9, .int .i64 a0_10, .bool a0_11, .string a0_12] 27 (0, 0)) (by (with_reducible repeat (first | refine kN_ ?_ _ | refine kD_ ?_ | refine kA_ ?_ _)); exact BK555.out) hb); have n1_ := Aside0.mk (kB_ (g := gb556) (o := .cells #[.int .i64 a1_0, .int .i64 a1_1, .int .i64 a1_2, .string a1_3, .string a1_4, .string a1_5, .int .i64 a1_6, .string a1_7, .int .i64 a1_8, .int .i64 a1_9, .int .i64 a1_10, .bool a1_11, .string a1_12] 27 (0, 0)) (by (with_reducible repeat (first | refine kN_ ?_ _ | refine kD_ ?_ | refine kA_ ?_ _)); exact BK556.out) hb); have n2_ := Aside0.mk (kB_ (g := gb576) (o := .cells #[.int .i64 t562, .int .i64 t563, .int .i64 t564, .string t565, .string t566, .string t567, .int .i64 t568, .string t569, .int .i64 t570, .int .i64 t571, .int .i64 t572, .bool t573, .string t574] 27 (0, 0)) (by (with_reducible repeat (first | refine kN_ ?_ _ | refine kD_ ?_ | refine kA_ ?_ _)); exact BK576.out) hb); have n3_ := Aside0.mk (bT_ (by repeat (first | (with_reducible first | exact HB.out | apply bA_ | apply bN_ | apply bD_ | refine bS_ ?_ GE555.out | refine bS_ ?_ GE556.out | refine bS_ ?_ GE576.out) | exact HB.out)) hb); clear BK555; clear BK556; clear BK576; clear HB; have BK555 := n0_; have BK556 := n1_; have BK576 := n2_; have HB := n3_; clear n0_ n1_ n2_ n3_; (try clear hb); (try clear hb2); (try clear hk); (try clear hi); have hnb97 := NB556_576.out; have hnc97 := NB576_556.out; obtain ⟨hcz98_0, hcz98_1, hcz98_2, hcz98_3, hcz98_4, hcz98_5, hcz98_6, hcz98_7, hcz98_8, hcz98_9, hcz98_10, hcz98_11, hcz98_12⟩ := cell13 BK556.out; obtain ⟨hfz98_0, hfz98_1, hfz98_2, hfz98_3, hfz98_4, hfz98_5, hfz98_6, hfz98_7, hfz98_8, hfz98_9, hfz98_10, hfz98_11, hfz98_12⟩ := froz13 BK556.out) | ((with_reducible refine gC_ (f := 9) rfl ?_); refine goesL_ (some 68) rfl rfl Tryd.func9 (by kernel_rfl) rfl #[.agg #[.int .i64 a1_0, .int .i64 a1_1, .int .i64 a1_2, .string a1_3, .string a1_4, .string a1_5, .int .i64 a1_6, .string a1_7, .int .i64 a1_8, .int .i64 a1_9, .int .i64 a1_10, .bool a1_11, .string a1_12]] rfl (by (try simp only [List.map_toArray, List.map_cons, List.map_nil]); first | done | rfl | (simp only [List.length_drop, List.length_take]; rfl)) ?_; (with_reducible refine (ticket_Payload.calls kj29 a1_0 a1_1 a1_2 a1_3 a1_4 a1_5 a1_6 a1_7 a1_8 a1_9 a1_10 a1_11 a1_12 t581 t582 _ ⟨TabW.now HT.out (by repeat (first | (with_reducible first | exact HB.out | apply bA_ | apply bN_ | apply bD_ | refine bS_ ?_ GE555.out | refine bS_ ?_ GE556.out | refine bS_ ?_ GE576.out) | exact HB.out))⟩ A51.out).mono ?_); rintro e w99 ⟨rfl, hb⟩; refine ⟨_, rfl, ?_⟩; have n0_ := Aside0.mk (kB_ (g := gb555) (o := .cells #[.int .i64 a0_0, .int .i64 a0_1, .int .i64 a0_2, .string a0_3, .string a0_4, .string a0_5, .int .i64 a0_6, .string a0_7, .int .i64 a0_8, .int .i64 a0_9, .int .i64 a0_10, .bool a0_11, .string a0_12] 27 (0, 0)) (by (with_reducible repeat (first | refine kN_ ?_ _ | refine kD_ ?_ | refine kA_ ?_ _)); exact BK555.out) hb); have n1_ := Aside0.mk (kB_ (g := gb556) (o := .cells #[.int .i64 a1_0, .int .i64 a1_1, .int .i64 a1_2, .string a1_3, .string a1_4, .string a1_5, .int .i64 a1_6, .string a1_7, .int .i64 a1_8, .int .i64 a1_9, .int .i64 a1_10, .bool a1_11, .string a1_12] 27 (0, 0)) (by (with_reducible repeat (first | refine kN_ ?_ _ | refine kD_ ?_ | refine kA_ ?_ _)); exact BK556.out) hb); have n2_ := Aside0.mk (kB_ (g := gb576) (o := .cells #[.int .i64 t562, .int .i64 t563, .int .i64 t564, .string t565, .string t566, .string t567, .int .i64 t568, .string t569, .int .i64 t570, .int .i64 t571, .int .i64 t572, .bool t573, .string t574] 27 (0, 0)) (by (with_reducible repeat (first | refine kN_ ?_ _ | refine kD_ ?_ | refine kA_ ?_ _)); exact BK576.out) hb); have n3_ := Aside0.mk (bT_ (by repeat (first | (with_reducible first | exact HB.out | apply bA_ | apply bN_ | apply bD_ | refine bS_ ?_ GE555.out | refine bS_ ?_ GE556.out | refine bS_ ?_ GE576.out) | exact HB.out)) hb); clear BK555; clear BK556; clear BK576; clear HB; have BK555 := n0_; have BK556 := n1_; have BK576 := n2_; have HB := n3_; clear n0_ n1_ n2_ n3_; (try clear hb); (try clear hb2); (try clear hk); (try clear hi)))
            go_meet
            case rel => exact ⟨_, H', ⟨by have := HJ5.out; have := HJ29.out; first | omega | exact Nat.le_refl _⟩, ⟨by (with_reducible repeat (first | refine kN_ ?_ _ | refine kD_ ?_ | refine kA_ ?_ _)); exact BK555.out⟩, ⟨by (with_reducible repeat (first | refine kN_ ?_ _ | refine kD_ ?_ | refine kA_ ?_ _)); exact BK556.out⟩, ⟨by repeat (first | (with_reducible first | exact HB.out | apply bA_ | apply bN_ | apply bD_ | refine bS_ ?_ GE555.out | refine bS_ ?_ GE556.out | refine bS_ ?_ GE576.out) | exact HB.out)⟩⟩
          ·rw [if_neg c52] at H
           exact absurd (Option.some.inj H) (by rw [hr_]; decide)
      ·rw [if_neg c27] at H
       have c27b0 : (t561 == 0) = false := beq_eq_false_iff_ne.mpr c27
       have c27b1 : (t561 != 0) = true := bne_iff_ne.mpr c27
       (first | rw [c27b0] | (simp only [i64_w, i32_w]; rw [c27b0]) | skip)
       have H' := Aside0.mk H
       clear H
       go_wp2
       go_meet
       case rel => exact ⟨_, H', ⟨by have := HJ5.out; first | omega | exact Nat.le_refl _⟩, ⟨by (with_reducible repeat (first | refine kN_ ?_ _ | refine kD_ ?_ | refine kA_ ?_ _)); exact BK555.out⟩, ⟨by (with_reducible repeat (first | refine kN_ ?_ _ | refine kD_ ?_ | refine kA_ ?_ _)); exact BK556.out⟩, ⟨by repeat (first | (with_reducible first | exact HB.out | apply bA_ | apply bN_ | apply bD_ | refine bS_ ?_ GE555.out | refine bS_ ?_ GE556.out) | exact HB.out)⟩⟩
     case rest =>
      clear HC23
      try clear c1
      try clear c2
      try clear p2
      try clear c3
      try clear c4
      try clear c5
      try clear c6
      try clear c7
      try clear c8
      try clear c9
      try clear c10
      try clear c11
      try clear c13
      try clear c17
      try clear c18
      try clear c19
      try clear c21
      try clear c24
      try clear c27
      try clear c27b0
      try clear c27b1
      try clear c33
      try clear c34
      try clear c37
      try clear c37b0
      try clear c37b1
      try clear c38
      try clear c38b0
      try clear c39
      try clear c40
      try clear c42
      try clear c44
      try clear c45
      try clear c47
      try clear c49
      try clear c52
      try clear c52b0
      try clear c52b1
      try clear c53
      try clear c53b0
      try clear c53b1
      try clear c54
      try clear c54b0
      try clear c54b1
      try clear c55
      try clear c55b0
      try clear c55b1
      try clear c55b2
      try clear c56
      try clear c57
      try clear c60
      try clear c65
      try clear c66
      try clear c69
      try clear c74
      try clear c74b0
      try clear c74b1
      try clear c74b2
      try clear c75
      try clear c76
      try clear c79
      try clear c84
      try clear c85
      try clear c88
      try clear c93
      try clear c94
      try clear c97
      try clear c100
      try clear c101
      try clear c104
      try clear hcz102_0
      try clear hcz102_1
      try clear hcz102_10
      try clear hcz102_11
      try clear hcz102_12
      try clear hcz102_2
      try clear hcz102_3
      try clear hcz102_4
      try clear hcz102_5
      try clear hcz102_6
      try clear hcz102_7
      try clear hcz102_8
      try clear hcz102_9
      try clear hcz105_0
      try clear hcz105_1
      try clear hcz105_10
      try clear hcz105_11
      try clear hcz105_12
      try clear hcz105_2
      try clear hcz105_3
      try clear hcz105_4
      try clear hcz105_5
      try clear hcz105_6
      try clear hcz105_7
      try clear hcz105_8
      try clear hcz105_9
      try clear hcz14_0
      try clear hcz14_1
      try clear hcz14_10
      try clear hcz14_11
      try clear hcz14_12
      try clear hcz14_2
      try clear hcz14_3
      try clear hcz14_4
      try clear hcz14_5
      try clear hcz14_6
      try clear hcz14_7
      try clear hcz14_8
      try clear hcz14_9
      try clear hcz16_0
      try clear hcz16_1
      try clear hcz16_10
      try clear hcz16_11
      try clear hcz16_12
      try clear hcz16_2
      try clear hcz16_3
      try clear hcz16_4
      try clear hcz16_5
      try clear hcz16_6
      try clear hcz16_7
      try clear hcz16_8
      try clear hcz16_9
      try clear hcz19_0
      try clear hcz19_1
      try clear hcz19_10
      try clear hcz19_11
      try clear hcz19_12
      try clear hcz19_2
      try clear hcz19_3
      try clear hcz19_4
      try clear hcz19_5
      try clear hcz19_6
      try clear hcz19_7
      try clear hcz19_8
      try clear hcz19_9
      try clear hcz25_0
      try clear hcz25_1
      try clear hcz25_10
      try clear hcz25_11
      try clear hcz25_12
      try clear hcz25_2
      try clear hcz25_3
      try clear hcz25_4
      try clear hcz25_5
      try clear hcz25_6
      try clear hcz25_7
      try clear hcz25_8
      try clear hcz25_9
      try clear hcz35_0
      try clear hcz35_1
      try clear hcz35_10
      try clear hcz35_11
      try clear hcz35_12
      try clear hcz35_2
      try clear hcz35_3
      try clear hcz35_4
      try clear hcz35_5
      try clear hcz35_6
      try clear hcz35_7
      try clear hcz35_8
      try clear hcz35_9
      try clear hcz41_0
      try clear hcz41_1
      try clear hcz41_10
      try clear hcz41_11
      try clear hcz41_12
      try clear hcz41_2
      try clear hcz41_3
      try clear hcz41_4
      try clear hcz41_5
      try clear hcz41_6
      try clear hcz41_7
      try clear hcz41_8
      try clear hcz41_9
      try clear hcz43_0
      try clear hcz43_1
      try clear hcz43_10
      try clear hcz43_11
      try clear hcz43_12
      try clear hcz43_2
      try clear hcz43_3
      try clear hcz43_4
      try clear hcz43_5
      try clear hcz43_6
      try clear hcz43_7
      try clear hcz43_8
      try clear hcz43_9
      try clear hcz46_0
      try clear hcz46_1
      try clear hcz46_10
      try clear hcz46_11
      try clear hcz46_12
      try clear hcz46_2
      try clear hcz46_3
      try clear hcz46_4
      try clear hcz46_5
      try clear hcz46_6
      try clear hcz46_7
      try clear hcz46_8
      try clear hcz46_9
      try clear hcz48_0
      try clear hcz48_1
      try clear hcz48_10
      try clear hcz48_11
      try clear hcz48_12
      try clear hcz48_2
      try clear hcz48_3
      try clear hcz48_4
      try clear hcz48_5
      try clear hcz48_6
      try clear hcz48_7
      try clear hcz48_8
      try clear hcz48_9
      try clear hcz58_0
      try clear hcz58_1
      try clear hcz58_10
      try clear hcz58_11
      try clear hcz58_12
      try clear hcz58_2
      try clear hcz58_3
      try clear hcz58_4
      try clear hcz58_5
      try clear hcz58_6
      try clear hcz58_7
      try clear hcz58_8
      try clear hcz58_9
      try clear hcz61_0
      try clear hcz61_1
      try clear hcz61_10
      try clear hcz61_11
      try clear hcz61_12
      try clear hcz61_2
      try clear hcz61_3
      try clear hcz61_4
      try clear hcz61_5
      try clear hcz61_6
      try clear hcz61_7
      try clear hcz61_8
      try clear hcz61_9
      try clear hcz63_0
      try clear hcz63_1
      try clear hcz63_10
      try clear hcz63_11
      try clear hcz63_12
      try clear hcz63_2
      try clear hcz63_3
      try clear hcz63_4
      try clear hcz63_5
      try clear hcz63_6
      try clear hcz63_7
      try clear hcz63_8
      try clear hcz63_9
      try clear hcz64_0
      try clear hcz64_1
      try clear hcz64_10
      try clear hcz64_11
      try clear hcz64_12
      try clear hcz64_2
      try clear hcz64_3
      try clear hcz64_4
      try clear hcz64_5
      try clear hcz64_6
      try clear hcz64_7
      try clear hcz64_8
      try clear hcz64_9
      try clear hcz67_0
      try clear hcz67_1
      try clear hcz67_10
      try clear hcz67_11
      try clear hcz67_12
      try clear hcz67_2
      try clear hcz67_3
      try clear hcz67_4
      try clear hcz67_5
      try clear hcz67_6
      try clear hcz67_7
      try clear hcz67_8
      try clear hcz67_9
      try clear hcz70_0
      try clear hcz70_1
      try clear hcz70_10
      try clear hcz70_11
      try clear hcz70_12
      try clear hcz70_2
      try clear hcz70_3
      try clear hcz70_4
      try clear hcz70_5
      try clear hcz70_6
      try clear hcz70_7
      try clear hcz70_8
      try clear hcz70_9
      try clear hcz72_0
      try clear hcz72_1
      try clear hcz72_10
      try clear hcz72_11
      try clear hcz72_12
      try clear hcz72_2
      try clear hcz72_3
      try clear hcz72_4
      try clear hcz72_5
      try clear hcz72_6
      try clear hcz72_7
      try clear hcz72_8
      try clear hcz72_9
      try clear hcz73_0
      try clear hcz73_1
      try clear hcz73_10
      try clear hcz73_11
      try clear hcz73_12
      try clear hcz73_2
      try clear hcz73_3
      try clear hcz73_4
      try clear hcz73_5
      try clear hcz73_6
      try clear hcz73_7
      try clear hcz73_8
      try clear hcz73_9
      try clear hcz77_0
      try clear hcz77_1
      try clear hcz77_10
      try clear hcz77_11
      try clear hcz77_12
      try clear hcz77_2
      try clear hcz77_3
      try clear hcz77_4
      try clear hcz77_5
      try clear hcz77_6
      try clear hcz77_7
      try clear hcz77_8
      try clear hcz77_9
      try clear hcz80_0
      try clear hcz80_1
      try clear hcz80_10
      try clear hcz80_11
      try clear hcz80_12
      try clear hcz80_2
      try clear hcz80_3
      try clear hcz80_4
      try clear hcz80_5
      try clear hcz80_6
      try clear hcz80_7
      try clear hcz80_8
      try clear hcz80_9
      try clear hcz82_0
      try clear hcz82_1
      try clear hcz82_10
      try clear hcz82_11
      try clear hcz82_12
      try clear hcz82_2
      try clear hcz82_3
      try clear hcz82_4
      try clear hcz82_5
      try clear hcz82_6
      try clear hcz82_7
      try clear hcz82_8
      try clear hcz82_9
      try clear hcz83_0
      try clear hcz83_1
      try clear hcz83_10
      try clear hcz83_11
      try clear hcz83_12
      try clear hcz83_2
      try clear hcz83_3
      try clear hcz83_4
      try clear hcz83_5
      try clear hcz83_6
      try clear hcz83_7
      try clear hcz83_8
      try clear hcz83_9
      try clear hcz86_0
      try clear hcz86_1
      try clear hcz86_10
      try clear hcz86_11
      try clear hcz86_12
      try clear hcz86_2
      try clear hcz86_3
      try clear hcz86_4
      try clear hcz86_5
      try clear hcz86_6
      try clear hcz86_7
      try clear hcz86_8
      try clear hcz86_9
      try clear hcz89_0
      try clear hcz89_1
      try clear hcz89_10
      try clear hcz89_11
      try clear hcz89_12
      try clear hcz89_2
      try clear hcz89_3
      try clear hcz89_4
      try clear hcz89_5
      try clear hcz89_6
      try clear hcz89_7
      try clear hcz89_8
      try clear hcz89_9
      try clear hcz91_0
      try clear hcz91_1
      try clear hcz91_10
      try clear hcz91_11
      try clear hcz91_12
      try clear hcz91_2
      try clear hcz91_3
      try clear hcz91_4
      try clear hcz91_5
      try clear hcz91_6
      try clear hcz91_7
      try clear hcz91_8
      try clear hcz91_9
      try clear hcz92_0
      try clear hcz92_1
      try clear hcz92_10
      try clear hcz92_11
      try clear hcz92_12
      try clear hcz92_2
      try clear hcz92_3
      try clear hcz92_4
      try clear hcz92_5
      try clear hcz92_6
      try clear hcz92_7
      try clear hcz92_8
      try clear hcz92_9
      try clear hcz95_0
      try clear hcz95_1
      try clear hcz95_10
      try clear hcz95_11
      try clear hcz95_12
      try clear hcz95_2
      try clear hcz95_3
      try clear hcz95_4
      try clear hcz95_5
      try clear hcz95_6
      try clear hcz95_7
      try clear hcz95_8
      try clear hcz95_9
      try clear hcz98_0
      try clear hcz98_1
      try clear hcz98_10
      try clear hcz98_11
      try clear hcz98_12
      try clear hcz98_2
      try clear hcz98_3
      try clear hcz98_4
      try clear hcz98_5
      try clear hcz98_6
      try clear hcz98_7
      try clear hcz98_8
      try clear hcz98_9
      try clear hfz102_0
      try clear hfz102_1
      try clear hfz102_10
      try clear hfz102_11
      try clear hfz102_12
      try clear hfz102_2
      try clear hfz102_3
      try clear hfz102_4
      try clear hfz102_5
      try clear hfz102_6
      try clear hfz102_7
      try clear hfz102_8
      try clear hfz102_9
      try clear hfz105_0
      try clear hfz105_1
      try clear hfz105_10
      try clear hfz105_11
      try clear hfz105_12
      try clear hfz105_2
      try clear hfz105_3
      try clear hfz105_4
      try clear hfz105_5
      try clear hfz105_6
      try clear hfz105_7
      try clear hfz105_8
      try clear hfz105_9
      try clear hfz14_0
      try clear hfz14_1
      try clear hfz14_10
      try clear hfz14_11
      try clear hfz14_12
      try clear hfz14_2
      try clear hfz14_3
      try clear hfz14_4
      try clear hfz14_5
      try clear hfz14_6
      try clear hfz14_7
      try clear hfz14_8
      try clear hfz14_9
      try clear hfz16_0
      try clear hfz16_1
      try clear hfz16_10
      try clear hfz16_11
      try clear hfz16_12
      try clear hfz16_2
      try clear hfz16_3
      try clear hfz16_4
      try clear hfz16_5
      try clear hfz16_6
      try clear hfz16_7
      try clear hfz16_8
      try clear hfz16_9
      try clear hfz19_0
      try clear hfz19_1
      try clear hfz19_10
      try clear hfz19_11
      try clear hfz19_12
      try clear hfz19_2
      try clear hfz19_3
      try clear hfz19_4
      try clear hfz19_5
      try clear hfz19_6
      try clear hfz19_7
      try clear hfz19_8
      try clear hfz19_9
      try clear hfz25_0
      try clear hfz25_1
      try clear hfz25_10
      try clear hfz25_11
      try clear hfz25_12
      try clear hfz25_2
      try clear hfz25_3
      try clear hfz25_4
      try clear hfz25_5
      try clear hfz25_6
      try clear hfz25_7
      try clear hfz25_8
      try clear hfz25_9
      try clear hfz35_0
      try clear hfz35_1
      try clear hfz35_10
      try clear hfz35_11
      try clear hfz35_12
      try clear hfz35_2
      try clear hfz35_3
      try clear hfz35_4
      try clear hfz35_5
      try clear hfz35_6
      try clear hfz35_7
      try clear hfz35_8
      try clear hfz35_9
      try clear hfz41_0
      try clear hfz41_1
      try clear hfz41_10
      try clear hfz41_11
      try clear hfz41_12
      try clear hfz41_2
      try clear hfz41_3
      try clear hfz41_4
      try clear hfz41_5
      try clear hfz41_6
      try clear hfz41_7
      try clear hfz41_8
      try clear hfz41_9
      try clear hfz43_0
      try clear hfz43_1
      try clear hfz43_10
      try clear hfz43_11
      try clear hfz43_12
      try clear hfz43_2
      try clear hfz43_3
      try clear hfz43_4
      try clear hfz43_5
      try clear hfz43_6
      try clear hfz43_7
      try clear hfz43_8
      try clear hfz43_9
      try clear hfz46_0
      try clear hfz46_1
      try clear hfz46_10
      try clear hfz46_11
      try clear hfz46_12
      try clear hfz46_2
      try clear hfz46_3
      try clear hfz46_4
      try clear hfz46_5
      try clear hfz46_6
      try clear hfz46_7
      try clear hfz46_8
      try clear hfz46_9
      try clear hfz48_0
      try clear hfz48_1
      try clear hfz48_10
      try clear hfz48_11
      try clear hfz48_12
      try clear hfz48_2
      try clear hfz48_3
      try clear hfz48_4
      try clear hfz48_5
      try clear hfz48_6
      try clear hfz48_7
      try clear hfz48_8
      try clear hfz48_9
      try clear hfz58_0
      try clear hfz58_1
      try clear hfz58_10
      try clear hfz58_11
      try clear hfz58_12
      try clear hfz58_2
      try clear hfz58_3
      try clear hfz58_4
      try clear hfz58_5
      try clear hfz58_6
      try clear hfz58_7
      try clear hfz58_8
      try clear hfz58_9
      try clear hfz61_0
      try clear hfz61_1
      try clear hfz61_10
      try clear hfz61_11
      try clear hfz61_12
      try clear hfz61_2
      try clear hfz61_3
      try clear hfz61_4
      try clear hfz61_5
      try clear hfz61_6
      try clear hfz61_7
      try clear hfz61_8
      try clear hfz61_9
      try clear hfz63_0
      try clear hfz63_1
      try clear hfz63_10
      try clear hfz63_11
      try clear hfz63_12
      try clear hfz63_2
      try clear hfz63_3
      try clear hfz63_4
      try clear hfz63_5
      try clear hfz63_6
      try clear hfz63_7
      try clear hfz63_8
      try clear hfz63_9
      try clear hfz64_0
      try clear hfz64_1
      try clear hfz64_10
      try clear hfz64_11
      try clear hfz64_12
      try clear hfz64_2
      try clear hfz64_3
      try clear hfz64_4
      try clear hfz64_5
      try clear hfz64_6
      try clear hfz64_7
      try clear hfz64_8
      try clear hfz64_9
      try clear hfz67_0
      try clear hfz67_1
      try clear hfz67_10
      try clear hfz67_11
      try clear hfz67_12
      try clear hfz67_2
      try clear hfz67_3
      try clear hfz67_4
      try clear hfz67_5
      try clear hfz67_6
      try clear hfz67_7
      try clear hfz67_8
      try clear hfz67_9
      try clear hfz70_0
      try clear hfz70_1
      try clear hfz70_10
      try clear hfz70_11
      try clear hfz70_12
      try clear hfz70_2
      try clear hfz70_3
      try clear hfz70_4
      try clear hfz70_5
      try clear hfz70_6
      try clear hfz70_7
      try clear hfz70_8
      try clear hfz70_9
      try clear hfz72_0
      try clear hfz72_1
      try clear hfz72_10
      try clear hfz72_11
      try clear hfz72_12
      try clear hfz72_2
      try clear hfz72_3
      try clear hfz72_4
      try clear hfz72_5
      try clear hfz72_6
      try clear hfz72_7
      try clear hfz72_8
      try clear hfz72_9
      try clear hfz73_0
      try clear hfz73_1
      try clear hfz73_10
      try clear hfz73_11
      try clear hfz73_12
      try clear hfz73_2
      try clear hfz73_3
      try clear hfz73_4
      try clear hfz73_5
      try clear hfz73_6
      try clear hfz73_7
      try clear hfz73_8
      try clear hfz73_9
      try clear hfz77_0
      try clear hfz77_1
      try clear hfz77_10
      try clear hfz77_11
      try clear hfz77_12
      try clear hfz77_2
      try clear hfz77_3
      try clear hfz77_4
      try clear hfz77_5
      try clear hfz77_6
      try clear hfz77_7
      try clear hfz77_8
      try clear hfz77_9
      try clear hfz80_0
      try clear hfz80_1
      try clear hfz80_10
      try clear hfz80_11
      try clear hfz80_12
      try clear hfz80_2
      try clear hfz80_3
      try clear hfz80_4
      try clear hfz80_5
      try clear hfz80_6
      try clear hfz80_7
      try clear hfz80_8
      try clear hfz80_9
      try clear hfz82_0
      try clear hfz82_1
      try clear hfz82_10
      try clear hfz82_11
      try clear hfz82_12
      try clear hfz82_2
      try clear hfz82_3
      try clear hfz82_4
      try clear hfz82_5
      try clear hfz82_6
      try clear hfz82_7
      try clear hfz82_8
      try clear hfz82_9
      try clear hfz83_0
      try clear hfz83_1
      try clear hfz83_10
      try clear hfz83_11
      try clear hfz83_12
      try clear hfz83_2
      try clear hfz83_3
      try clear hfz83_4
      try clear hfz83_5
      try clear hfz83_6
      try clear hfz83_7
      try clear hfz83_8
      try clear hfz83_9
      try clear hfz86_0
      try clear hfz86_1
      try clear hfz86_10
      try clear hfz86_11
      try clear hfz86_12
      try clear hfz86_2
      try clear hfz86_3
      try clear hfz86_4
      try clear hfz86_5
      try clear hfz86_6
      try clear hfz86_7
      try clear hfz86_8
      try clear hfz86_9
      try clear hfz89_0
      try clear hfz89_1
      try clear hfz89_10
      try clear hfz89_11
      try clear hfz89_12
      try clear hfz89_2
      try clear hfz89_3
      try clear hfz89_4
      try clear hfz89_5
      try clear hfz89_6
      try clear hfz89_7
      try clear hfz89_8
      try clear hfz89_9
      try clear hfz91_0
      try clear hfz91_1
      try clear hfz91_10
      try clear hfz91_11
      try clear hfz91_12
      try clear hfz91_2
      try clear hfz91_3
      try clear hfz91_4
      try clear hfz91_5
      try clear hfz91_6
      try clear hfz91_7
      try clear hfz91_8
      try clear hfz91_9
      try clear hfz92_0
      try clear hfz92_1
      try clear hfz92_10
      try clear hfz92_11
      try clear hfz92_12
      try clear hfz92_2
      try clear hfz92_3
      try clear hfz92_4
      try clear hfz92_5
      try clear hfz92_6
      try clear hfz92_7
      try clear hfz92_8
      try clear hfz92_9
      try clear hfz95_0
      try clear hfz95_1
      try clear hfz95_10
      try clear hfz95_11
      try clear hfz95_12
      try clear hfz95_2
      try clear hfz95_3
      try clear hfz95_4
      try clear hfz95_5
      try clear hfz95_6
      try clear hfz95_7
      try clear hfz95_8
      try clear hfz95_9
      try clear hfz98_0
      try clear hfz98_1
      try clear hfz98_10
      try clear hfz98_11
      try clear hfz98_12
      try clear hfz98_2
      try clear hfz98_3
      try clear hfz98_4
      try clear hfz98_5
      try clear hfz98_6
      try clear hfz98_7
      try clear hfz98_8
      try clear hfz98_9
      try clear p2
      obtain ⟨kq, HA, HJ22, BK555, BK556, HB⟩ := hcut
      cases kq with
      | zero => exact absurd HA.out (by simp [gonglaw23_TicketBack.j2])
      | succ kj22 =>
       have H := HA.out
       clear HA
       simp only [gonglaw23_TicketBack.j2] at H
       replace H := Option.bind_eq_some_iff.mp H
       obtain ⟨t583, A1070, H⟩ := H
       try dsimp only at H
       have A107 := Aside0.mk A1070
       clear A1070
       replace H := Option.bind_eq_some_iff.mp H
       obtain ⟨⟨t584, t585⟩, A1080, H⟩ := H
       try dsimp only at H
       have A108 := Aside0.mk A1080
       clear A1080
       replace H := Option.bind_eq_some_iff.mp H
       obtain ⟨⟨t586, t587⟩, A1090, H⟩ := H
       try dsimp only at H
       have A109 := Aside0.mk A1090
       clear A1090
       replace H := Option.bind_eq_some_iff.mp H
       obtain ⟨⟨t588, t589, t590, t591, t592, t593, t594, t595, t596, t597, t598, t599, t600, t601⟩, A1100, H⟩ := H
       try dsimp only at H
       have A110 := Aside0.mk A1100
       clear A1100
       by_cases c111 : t585 = 0
       ·rw [if_pos c111] at H
        have c111b0 : (t585 == 0) = true := beq_iff_eq.mpr c111
        have c111b1 : (t585 != 0) = false := bne_eq_false_iff_eq.mpr c111
        clear c111
        by_cases c112 : t587 = 0
        ·rw [if_pos c112] at H
         have c112b0 : (t587 == 0) = true := beq_iff_eq.mpr c112
         have c112b1 : (t587 != 0) = false := bne_eq_false_iff_eq.mpr c112
         clear c112
         by_cases c113 : t586 = (wrap64 (1 + t583))
         ·rw [if_pos c113] at H
          have c113b0 : (t586 == (wrap64 (1 + t583))) = true := beq_iff_eq.mpr c113
          have c113b1 : (t586 != (wrap64 (1 + t583))) = false := bne_eq_false_iff_eq.mpr c113
          clear c113
          obtain rfl := Option.some.inj H
          go_wp2_with (first | ((with_reducible refine gC_ (f := 21) rfl ?_); refine goesL_ (some 96) rfl rfl Tryd.func21 (by kernel_rfl) rfl #[.int .i64 a2, .int .i64 1152921504606846976] rfl (by (try simp only [List.map_toArray, List.map_cons, List.map_nil]); first | done | rfl | (simp only [List.length_drop, List.length_take]; rfl)) ?_; (with_reducible refine (gongbook_Below.calls a2 1152921504606846976 t583 _ A107.out).mono ?_); rintro e w' ⟨rfl, ⟨nd, rfl⟩⟩; refine ⟨_, rfl, ?_⟩; (try (rw [drewN_self wc]; generalize hq_ : World.drewN wc _ = wc; have n0_ : Aside0 (wc.heap[gb555]? = some (.cells #[.int .i64 a0_0, .int .i64 a0_1, .int .i64 a0_2, .string a0_3, .string a0_4, .string a0_5, .int .i64 a0_6, .string a0_7, .int .i64 a0_8, .int .i64 a0_9, .int .i64 a0_10, .bool a0_11, .string a0_12] 27 (0, 0))) := ⟨by rw [← hq_]; exact (by (with_reducible repeat (first | refine kN_ ?_ _ | refine kD_ ?_ | refine kA_ ?_ _)); exact BK555.out)⟩; have n1_ : Aside0 (wc.heap[gb556]? = some (.cells #[.int .i64 a1_0, .int .i64 a1_1, .int .i64 a1_2, .string a1_3, .string a1_4, .string a1_5, .int .i64 a1_6, .string a1_7, .int .i64 a1_8, .int .i64 a1_9, .int .i64 a1_10, .bool a1_11, .string a1_12] 27 (0, 0))) := ⟨by rw [← hq_]; exact (by (with_reducible repeat (first | refine kN_ ?_ _ | refine kD_ ?_ | refine kA_ ?_ _)); exact BK556.out)⟩; have n2_ : Aside0 (Below w.heap.size w wc) := ⟨by rw [← hq_]; exact (by repeat (first | (with_reducible first | exact HB.out | apply bA_ | apply bN_ | apply bD_ | refine bS_ ?_ GE555.out | refine bS_ ?_ GE556.out) | exact HB.out))⟩; clear BK555 BK556 HB hq_; have BK555 := n0_; have BK556 := n1_; have HB := n2_; clear n0_ n1_ n2_))) | ((with_reducible refine gC_ (f := 13) rfl ?_); refine goesL_ (some 100) rfl rfl Tryd.func13 (by kernel_rfl) rfl #[.int .i64 (wrap64 (1 + t583))] rfl (by (try simp only [List.map_toArray, List.map_cons, List.map_nil]); first | done | rfl | (simp only [List.length_drop, List.length_take]; rfl)) ?_; (with_reducible refine (ticket_Ack.calls kj22 (wrap64 (1 + t583)) t584 t585 _ ⟨TabW.now HT.out (by repeat (first | (with_reducible first | exact HB.out | apply bA_ | apply bN_ | apply bD_ | refine bS_ ?_ GE555.out | refine bS_ ?_ GE556.out) | exact HB.out))⟩ A108.out).mono ?_); rintro e w114 ⟨rfl, hb⟩; refine ⟨_, rfl, ?_⟩; have n0_ := Aside0.mk (kB_ (g := gb555) (o := .cells #[.int .i64 a0_0, .int .i64 a0_1, .int .i64 a0_2, .string a0_3, .string a0_4, .string a0_5, .int .i64 a0_6, .string a0_7, .int .i64 a0_8, .int .i64 a0_9, .int .i64 a0_10, .bool a0_11, .string a0_12] 27 (0, 0)) (by (with_reducible repeat (first | refine kN_ ?_ _ | refine kD_ ?_ | refine kA_ ?_ _)); exact BK555.out) hb); have n1_ := Aside0.mk (kB_ (g := gb556) (o := .cells #[.int .i64 a1_0, .int .i64 a1_1, .int .i64 a1_2, .string a1_3, .string a1_4, .string a1_5, .int .i64 a1_6, .string a1_7, .int .i64 a1_8, .int .i64 a1_9, .int .i64 a1_10, .bool a1_11, .string a1_12] 27 (0, 0)) (by (with_reducible repeat (first | refine kN_ ?_ _ | refine kD_ ?_ | refine kA_ ?_ _)); exact BK556.out) hb); have n2_ := Aside0.mk (bT_ (by repeat (first | (with_reducible first | exact HB.out | apply bA_ | apply bN_ | apply bD_ | refine bS_ ?_ GE555.out | refine bS_ ?_ GE556.out) | exact HB.out)) hb); clear BK555; clear BK556; clear HB; have BK555 := n0_; have BK556 := n1_; have HB := n2_; clear n0_ n1_ n2_; (try clear hb); (try clear hb2); (try clear hk); (try clear hi)) | ((with_reducible refine gC_ (f := 19) rfl ?_); refine goesL_ (some 105) rfl rfl Tryd.func19 (by kernel_rfl) rfl #[.string t584] rfl (by (try simp only [List.map_toArray, List.map_cons, List.map_nil]); first | done | rfl | (simp only [List.length_drop, List.length_take]; rfl)) ?_; (with_reducible refine (ticket_Acked.calls kj22 t584 t586 t587 _ ⟨TabW.now HT.out (by repeat (first | (with_reducible first | exact HB.out | apply bA_ | apply bN_ | apply bD_ | refine bS_ ?_ GE555.out | refine bS_ ?_ GE556.out) | exact HB.out))⟩ A109.out).mono ?_); rintro e w115 ⟨rfl, hb⟩; refine ⟨_, rfl, ?_⟩; have n0_ := Aside0.mk (kB_ (g := gb555) (o := .cells #[.int .i64 a0_0, .int .i64 a0_1, .int .i64 a0_2, .string a0_3, .string a0_4, .string a0_5, .int .i64 a0_6, .string a0_7, .int .i64 a0_8, .int .i64 a0_9, .int .i64 a0_10, .bool a0_11, .string a0_12] 27 (0, 0)) (by (with_reducible repeat (first | refine kN_ ?_ _ | refine kD_ ?_ | refine kA_ ?_ _)); exact BK555.out) hb); have n1_ := Aside0.mk (kB_ (g := gb556) (o := .cells #[.int .i64 a1_0, .int .i64 a1_1, .int .i64 a1_2, .string a1_3, .string a1_4, .string a1_5, .int .i64 a1_6, .string a1_7, .int .i64 a1_8, .int .i64 a1_9, .int .i64 a1_10, .bool a1_11, .string a1_12] 27 (0, 0)) (by (with_reducible repeat (first | refine kN_ ?_ _ | refine kD_ ?_ | refine kA_ ?_ _)); exact BK556.out) hb); have n2_ := Aside0.mk (bT_ (by repeat (first | (with_reducible first | exact HB.out | apply bA_ | apply bN_ | apply bD_ | refine bS_ ?_ GE555.out | refine bS_ ?_ GE556.out) | exact HB.out)) hb); clear BK555; clear BK556; clear HB; have BK555 := n0_; have BK556 := n1_; have HB := n2_; clear n0_ n1_ n2_; (try clear hb); (try clear hb2); (try clear hk); (try clear hi)) | ((with_reducible refine gC_ (f := 17) rfl ?_); refine goesL_ (some 110) rfl rfl Tryd.func17 (by kernel_rfl) rfl #[.string t584] rfl (by (try simp only [List.map_toArray, List.map_cons, List.map_nil]); first | done | rfl | (simp only [List.length_drop, List.length_take]; rfl)) ?_; (with_reducible refine (ticket_Decode.calls kj22 t584 t588 t589 t590 t591 t592 t593 t594 t595 t596 t597 t598 t599 t600 t601 _ ⟨TabW.now HT.out (by repeat (first | (with_reducible first | exact HB.out | apply bA_ | apply bN_ | apply bD_ | refine bS_ ?_ GE555.out | refine bS_ ?_ GE556.out) | exact HB.out))⟩ A110.out).mono ?_); rintro e w116 ⟨rfl, hb⟩; refine ⟨_, rfl, ?_⟩; have n0_ := Aside0.mk (kB_ (g := gb555) (o := .cells #[.int .i64 a0_0, .int .i64 a0_1, .int .i64 a0_2, .string a0_3, .string a0_4, .string a0_5, .int .i64 a0_6, .string a0_7, .int .i64 a0_8, .int .i64 a0_9, .int .i64 a0_10, .bool a0_11, .string a0_12] 27 (0, 0)) (by (with_reducible repeat (first | refine kN_ ?_ _ | refine kD_ ?_ | refine kA_ ?_ _)); exact BK555.out) hb); have n1_ := Aside0.mk (kB_ (g := gb556) (o := .cells #[.int .i64 a1_0, .int .i64 a1_1, .int .i64 a1_2, .string a1_3, .string a1_4, .string a1_5, .int .i64 a1_6, .string a1_7, .int .i64 a1_8, .int .i64 a1_9, .int .i64 a1_10, .bool a1_11, .string a1_12] 27 (0, 0)) (by (with_reducible repeat (first | refine kN_ ?_ _ | refine kD_ ?_ | refine kA_ ?_ _)); exact BK556.out) hb); have n2_ := Aside0.mk (bT_ (by repeat (first | (with_reducible first | exact HB.out | apply bA_ | apply bN_ | apply bD_ | refine bS_ ?_ GE555.out | refine bS_ ?_ GE556.out) | exact HB.out)) hb); clear BK555; clear BK556; clear HB; have BK555 := n0_; have BK556 := n1_; have HB := n2_; clear n0_ n1_ n2_; (try clear hb); (try clear hb2); (try clear hk); (try clear hi)) | ((with_reducible refine gD_ (N := 21) rfl ?_); refine gB_ ?hg (N := 21) ?hd (cs := #[.int .i64 0, .int .i64 0, .int .i64 0, .string (⟨#[]⟩ : ByteArray), .string (⟨#[]⟩ : ByteArray), .string (⟨#[]⟩ : ByteArray), .int .i64 0, .string (⟨#[]⟩ : ByteArray), .int .i64 0, .int .i64 0, .int .i64 0, .bool false, .string (⟨#[]⟩ : ByteArray)]) (t := 27) ?hr ?_; (case hd => rfl); (case hg => rfl); (case hr => first | (go_simp; done) | (go_simp; rfl)); intro gb602 hg w117 hbox hb; have n0_ := Aside0.mk (kB_ (g := gb555) (o := .cells #[.int .i64 a0_0, .int .i64 a0_1, .int .i64 a0_2, .string a0_3, .string a0_4, .string a0_5, .int .i64 a0_6, .string a0_7, .int .i64 a0_8, .int .i64 a0_9, .int .i64 a0_10, .bool a0_11, .string a0_12] 27 (0, 0)) (by (with_reducible repeat (first | refine kN_ ?_ _ | refine kD_ ?_ | refine kA_ ?_ _)); exact BK555.out) hb); have n1_ := Aside0.mk (kB_ (g := gb556) (o := .cells #[.int .i64 a1_0, .int .i64 a1_1, .int .i64 a1_2, .string a1_3, .string a1_4, .string a1_5, .int .i64 a1_6, .string a1_7, .int .i64 a1_8, .int .i64 a1_9, .int .i64 a1_10, .bool a1_11, .string a1_12] 27 (0, 0)) (by (with_reducible repeat (first | refine kN_ ?_ _ | refine kD_ ?_ | refine kA_ ?_ _)); exact BK556.out) hb); have n2_ := Aside0.mk (bT_ (by repeat (first | (with_reducible first | exact HB.out | apply bA_ | apply bN_ | apply bD_ | refine bS_ ?_ GE555.out | refine bS_ ?_ GE556.out) | exact HB.out)) hb); have n3_ := Aside0.mk (hbox); have n4_ := Aside0.mk ((by rw [hg]; exact (bZ_ (by repeat (first | (with_reducible first | exact HB.out | apply bA_ | apply bN_ | apply bD_ | refine bS_ ?_ GE555.out | refine bS_ ?_ GE556.out) | exact HB.out))) : w.heap.size ≤ gb602)); have n5_ := Aside0.mk ((by rw [hg]; exact (bZ_ (by repeat (first | (with_reducible first | exact HB.out | apply bA_ | apply bN_ | apply bD_ | refine bS_ ?_ GE555.out | refine bS_ ?_ GE556.out) | exact HB.out))) : w.heap.size ≤ gb602)); have n6_ := Aside0.mk ((by rw [hg]; exact Nat.ne_of_lt (blk_lt (g := gb555) (o := .cells #[.int .i64 a0_0, .int .i64 a0_1, .int .i64 a0_2, .string a0_3, .string a0_4, .string a0_5, .int .i64 a0_6, .string a0_7, .int .i64 a0_8, .int .i64 a0_9, .int .i64 a0_10, .bool a0_11, .string a0_12] 27 (0, 0)) (by (with_reducible repeat (first | refine kN_ ?_ _ | refine kD_ ?_ | refine kA_ ?_ _)); exact BK555.out)) : gb555 ≠ gb602)); have n7_ := Aside0.mk ((by rw [hg]; exact Nat.ne_of_gt (blk_lt (g := gb555) (o := .cells #[.int .i64 a0_0, .int .i64 a0_1, .int .i64 a0_2, .string a0_3, .string a0_4, .string a0_5, .int .i64 a0_6, .string a0_7, .int .i64 a0_8, .int .i64 a0_9, .int .i64 a0_10, .bool a0_11, .string a0_12] 27 (0, 0)) (by (with_reducible repeat (first | refine kN_ ?_ _ | refine kD_ ?_ | refine kA_ ?_ _)); exact BK555.out)) : gb602 ≠ gb555)); have n8_ := Aside0.mk ((by rw [hg]; exact Nat.ne_of_lt (blk_lt (g := gb556) (o := .cells #[.int .i64 a1_0, .int .i64 a1_1, .int .i64 a1_2, .string a1_3, .string a1_4, .string a1_5, .int .i64 a1_6, .string a1_7, .int .i64 a1_8, .int .i64 a1_9, .int .i64 a1_10, .bool a1_11, .string a1_12] 27 (0, 0)) (by (with_reducible repeat (first | refine kN_ ?_ _ | refine kD_ ?_ | refine kA_ ?_ _)); exact BK556.out)) : gb556 ≠ gb602)); have n9_ := Aside0.mk ((by rw [hg]; exact Nat.ne_of_gt (blk_lt (g := gb556) (o := .cells #[.int .i64 a1_0, .int .i64 a1_1, .int .i64 a1_2, .string a1_3, .string a1_4, .string a1_5, .int .i64 a1_6, .string a1_7, .int .i64 a1_8, .int .i64 a1_9, .int .i64 a1_10, .bool a1_11, .string a1_12] 27 (0, 0)) (by (with_reducible repeat (first | refine kN_ ?_ _ | refine kD_ ?_ | refine kA_ ?_ _)); exact BK556.out)) : gb602 ≠ gb556)); clear BK555; clear BK556; clear HB; have BK555 := n0_; have BK556 := n1_; have HB := n2_; have BK602 := n3_; have GW602 := n4_; have GE602 := n5_; have NB555_602 := n6_; have NB602_555 := n7_; have NB556_602 := n8_; have NB602_556 := n9_; clear n0_ n1_ n2_ n3_ n4_ n5_ n6_ n7_ n8_ n9_; clear hb hbox hg; have hnb118 := NB602_555.out; have hnc118 := NB555_602.out; have hnb119 := NB602_556.out; have hnc119 := NB556_602.out; obtain ⟨_,_,_,_,_,_,_,_,_,_,_,_,_⟩ := cell13 BK602.out; obtain ⟨_,_,_,_,_,_,_,_,_,_,_,_,_⟩ := froz13 BK602.out))
          go_ret
          exact ⟨by first | rfl | (simp [errW_none, errW_some] <;> rfl) | (simp [*, errW_none, errW_some] <;> rfl), by repeat (first | (with_reducible first | exact HB.out | apply bA_ | apply bN_ | apply bD_ | refine bS_ ?_ GE555.out | refine bS_ ?_ GE556.out | refine bS_ ?_ GE602.out) | exact HB.out)⟩
         ·rw [if_neg c113] at H
          exact absurd (Option.some.inj H) (by rw [hr_]; decide)
        ·rw [if_neg c112] at H
         exact absurd (Option.some.inj H) (by rw [hr_]; decide)
       ·rw [if_neg c111] at H
        exact absurd (Option.some.inj H) (by rw [hr_]; decide)
 ·replace c5 := Bool.eq_false_iff.mpr c5
  subst c5
  have H1 : (some false) = some r := by rw [if_neg (show ¬ (false = true) by decide)] at H; exact H
  clear H
  have H := H1
  clear H1
  exact absurd (Option.some.inj H) (by rw [hr_]; decide)
end Go.Proofs.YtipenplplmdclaaDoor.Px
end
section
namespace Go.Proofs.YtipenplplmdclaaDoor.Px
open Go Go.RowKit Go.Proofs.YtipenplplmdclaaDoorW.PrintWords
structure S23 where
  f0 : ByteArray
  f1 : ByteArray
  f2 : ByteArray
  f3 : Int
  f4 : ByteArray
structure S25 where
  f0 : Int
  f1 : S23
  f2 : Int
  f3 : Int
  f4 : Int
  f5 : Bool
  f6 : ByteArray
structure S27 where
  f0 : Int
  f1 : Int
  f2 : S25
def k23 : Kd S23 := Kd.iso (Kd.pair Kd.string (Kd.pair Kd.string (Kd.pair Kd.string (Kd.pair (Kd.int .i64) Kd.string)))) (fun x => (x.f0, x.f1, x.f2, x.f3, x.f4))
def k25 : Kd S25 := Kd.iso (Kd.pair (Kd.int .i64) (Kd.pair k23 (Kd.pair (Kd.int .i64) (Kd.pair (Kd.int .i64) (Kd.pair (Kd.int .i64) (Kd.pair Kd.bool Kd.string)))))) (fun x => (x.f0, x.f1, x.f2, x.f3, x.f4, x.f5, x.f6))
def k27 : Kd S27 := Kd.iso (Kd.pair (Kd.int .i64) (Kd.pair (Kd.int .i64) k25)) (fun x => (x.f0, x.f1, x.f2))
abbrev TkC (x : S27) : Array Value := #[.int .i64 x.f0, .int .i64 x.f1, .int .i64 x.f2.f0, .string x.f2.f1.f0, .string x.f2.f1.f1, .string x.f2.f1.f2, .int .i64 x.f2.f1.f3, .string x.f2.f1.f4, .int .i64 x.f2.f2, .int .i64 x.f2.f3, .int .i64 x.f2.f4, .bool x.f2.f5, .string x.f2.f6]
theorem tk_event {w : World} {x : S23} {cs : List Value} (h : k23.K w x cs) : cs = [.string x.f0, .string x.f1, .string x.f2, .int .i64 x.f3, .string x.f4] := by
  obtain ⟨a0, r0, he0, h0, r1, s1, he1, h1, r2, s2, he2, h2, r3, s3, he3, h3, h4⟩ := h
  have e0 : a0 = [.string x.f0] := h0
  have e1 : r1 = [.string x.f1] := h1
  have e2 : r2 = [.string x.f2] := h2
  have e3 : r3 = [.int .i64 x.f3] := h3
  have e4 : s3 = [.string x.f4] := h4
  rw [he0, he1, he2, he3, e0, e1, e2, e3, e4]
  rfl
theorem tk_row {w : World} {x : S25} {cs : List Value} (h : k25.K w x cs) : cs = [.int .i64 x.f0, .string x.f1.f0, .string x.f1.f1, .string x.f1.f2, .int .i64 x.f1.f3, .string x.f1.f4, .int .i64 x.f2, .int .i64 x.f3, .int .i64 x.f4, .bool x.f5, .string x.f6] := by
  obtain ⟨a0, r0, he0, h0, r1, s1, he1, h1, r2, s2, he2, h2, r3, s3, he3, h3, r4, s4, he4, h4, r5, s5, he5, h5, h6⟩ := h
  have e0 : a0 = [.int .i64 x.f0] := h0
  have e1 := tk_event h1
  have e2 : r2 = [.int .i64 x.f2] := h2
  have e3 : r3 = [.int .i64 x.f3] := h3
  have e4 : r4 = [.int .i64 x.f4] := h4
  have e5 : r5 = [.bool x.f5] := h5
  have e6 : s5 = [.string x.f6] := h6
  rw [he0, he1, he2, he3, he4, he5, e0, e1, e2, e3, e4, e5, e6]
  rfl
theorem tk_cells {w : World} {x : S27} {cs : Array Value} (h : k27.K w x cs.toList) : cs = TkC x := by
  obtain ⟨a0, r0, he0, h0, r1, s1, he1, h1, h2⟩ := h
  have e0 : a0 = [.int .i64 x.f0] := h0
  have e1 : r1 = [.int .i64 x.f1] := h1
  have e2 := tk_row h2
  apply Array.ext'
  rw [he0, he1, e0, e1, e2]
  rfl
end Go.Proofs.YtipenplplmdclaaDoor.Px
end
section
namespace Go.Proofs.YtipenplplmdclaaDoor.Str
open Go Go.Proofs.YtipenplplmdclaaDoorW.PrintWords
theorem ext {s t : ByteArray} (h : s.data.toList = t.data.toList) : s = t := by
  cases s; cases t
  simp only at h
  congr
  exact Array.ext' h
theorem size_L (s : ByteArray) : s.size = s.data.toList.length := by simp
theorem toList_L (s : ByteArray) : s.toList = s.data.toList := ByteArray.toList_eq s
theorem app_L (s t : ByteArray) : (s ++ t).data.toList = s.data.toList ++ t.data.toList := by simp
theorem extract_L (s : ByteArray) (a b : Nat) : (s.extract a b).data.toList = (s.data.toList.take b).drop a := by
  simp [List.drop_take]
theorem pre_L (s : ByteArray) (b : Nat) : (s.extract 0 b).data.toList = s.data.toList.take b := by rw [extract_L]; simp
theorem post_L (s : ByteArray) (a : Nat) : (s.extract a s.size).data.toList = s.data.toList.drop a := by
  rw [extract_L, List.take_of_length_le (by simp)]
theorem nums_L (xs : List Int) : (strOfNums xs).data.toList = xs.map fun n => UInt8.ofNat n.toNat := strOfNums_data xs
def ofL (l : List UInt8) : ByteArray := ⟨l.toArray⟩
@[simp] theorem ofL_L (l : List UInt8) : (ofL l).data.toList = l := rfl
@[simp] theorem ofL_size (l : List UInt8) : (ofL l).size = l.length := by simp [size_L]
theorem ofL_of (s : ByteArray) : ofL s.data.toList = s := ext rfl
theorem bt_L {s : ByteArray} {i : Nat} (h : i < s.size) : bt s (i : Int) = ((s.data.toList.getD i 0).toNat : Int) := by
  unfold bt
  rw [dif_pos (by simpa using h)]
  simp [List.getD, h]
  rfl
theorem wrap64_id {x : Int} (h0 : -9223372036854775808 ≤ x) (h1 : x < 9223372036854775808) : Go.RowKit.wrap64 x = x := by
  unfold Go.RowKit.wrap64
  omega
theorem wf_i64 {x : Int} (h : (Lit.int .i64 x).wf = true) : -9223372036854775808 ≤ x ∧ x ≤ 9223372036854775807 := by
  have e1 : IntKind.i64.min = -9223372036854775808 := rfl
  have e2 : IntKind.i64.max = 9223372036854775807 := rfl
  simp [Lit.wf, e1, e2] at h
  omega
theorem u8_nat (b : UInt8) : UInt8.ofNat ((b.toNat : Int)).toNat = b := by
  apply UInt8.toNat_inj.1
  have := b.toNat_lt
  simp
theorem map_u8 (l : List UInt8) : (l.map fun b => (b.toNat : Int)).map (fun n => UInt8.ofNat n.toNat) = l := by
  rw [List.map_map]
  conv => rhs; rw [← List.map_id l]
  apply List.map_congr_left
  intro b _
  exact u8_nat b
end Go.Proofs.YtipenplplmdclaaDoor.Str
end
section
namespace Go.Proofs.YtipenplplmdclaaDoor.Utf
open Go
def isC (c : Nat) : Prop := c ≤ 1114111 ∧ (c < 55296 ∨ 57343 < c)
instance (c : Nat) : Decidable (isC c) := by unfold isC; infer_instance
def encN (c : Nat) : List Nat :=
  if c < 128 then [c] else if c < 2048 then [192 + c / 64, 128 + c % 64]
  else if c < 65536 then [224 + c / 4096, 128 + c / 64 % 64, 128 + c % 64]
  else [240 + c / 262144, 128 + c / 4096 % 64, 128 + c / 64 % 64, 128 + c % 64]
def enc (c : Nat) : List UInt8 := (encN c).map UInt8.ofNat
def decN : List Nat → Option (Nat × Nat)
  | [] => none
  | a :: l =>
    if a < 128 then some (a, 1)
    else if a / 32 = 6 then (match l with
      | b :: _ => if b / 64 = 2 ∧ 128 ≤ a % 32 * 64 + b % 64 then some (a % 32 * 64 + b % 64, 2) else none
      | _ => none)
    else if a / 16 = 14 then (match l with
      | b :: c :: _ => if b / 64 = 2 ∧ c / 64 = 2 ∧ 2048 ≤ (a % 16 * 64 + b % 64) * 64 + c % 64 ∧ isC ((a % 16 * 64 + b % 64) * 64 + c % 64) then some ((a % 16 * 64 + b % 64) * 64 + c % 64, 3) else none
      | _ => none)
    else if a / 8 = 30 then (match l with
      | b :: c :: d :: _ => if b / 64 = 2 ∧ c / 64 = 2 ∧ d / 64 = 2 ∧ 65536 ≤ ((a % 8 * 64 + b % 64) * 64 + c % 64) * 64 + d % 64 ∧ isC (((a % 8 * 64 + b % 64) * 64 + c % 64) * 64 + d % 64) then some (((a % 8 * 64 + b % 64) * 64 + c % 64) * 64 + d % 64, 4) else none
      | _ => none)
    else none
def nat (l : List UInt8) : List Nat := l.map UInt8.toNat
def dec (l : List UInt8) : Option (Nat × Nat) := decN (nat l)
theorem nat_ofNat (l : List Nat) (h : ∀ x ∈ l, x < 256) : nat (l.map UInt8.ofNat) = l := by
  unfold nat
  rw [List.map_map]
  conv => rhs; rw [← List.map_id l]
  apply List.map_congr_left
  intro x hx
  have := h x hx
  simp
  omega
theorem encN_small (c : Nat) (h : isC c) : ∀ x ∈ encN c, x < 256 := by
  unfold isC at h
  unfold encN
  intro x hx
  split at hx
  · simp at hx; omega
  · split at hx
    · simp at hx; omega
    · split at hx
      · simp at hx; omega
      · simp at hx; omega
theorem nat_enc (c : Nat) (h : isC c) : nat (enc c) = encN c := nat_ofNat _ (encN_small c h)
theorem enc_length (c : Nat) : (enc c).length = (encN c).length := by simp [enc]
theorem encN_length (c : Nat) : 1 ≤ (encN c).length ∧ (encN c).length ≤ 4 := by
  unfold encN
  split
  · simp
  · split
    · simp
    · split <;> simp
theorem enc_len (c : Nat) : 1 ≤ (enc c).length ∧ (enc c).length ≤ 4 := by rw [enc_length]; exact encN_length c
theorem decN_enc (c : Nat) (h : isC c) (r : List Nat) : decN (encN c ++ r) = some (c, (encN c).length) := by
  have h' := h
  unfold isC at h'
  unfold encN
  by_cases h1 : c < 128
  · rw [if_pos h1]
    simp only [List.cons_append, decN, if_pos h1, List.length_cons, List.length_nil]
  · rw [if_neg h1]
    by_cases h2 : c < 2048
    · rw [if_pos h2]
      have e : (192 + c / 64) % 32 * 64 + (128 + c % 64) % 64 = c := by omega
      simp only [List.cons_append, List.nil_append, decN, List.length_cons, List.length_nil, e]
      rw [if_neg (by omega), if_pos (by omega), if_pos (by omega)]
    · rw [if_neg h2]
      by_cases h3 : c < 65536
      · rw [if_pos h3]
        have e : ((224 + c / 4096) % 16 * 64 + (128 + c / 64 % 64) % 64) * 64 + (128 + c % 64) % 64 = c := by omega
        simp only [List.cons_append, List.nil_append, decN, List.length_cons, List.length_nil, e]
        rw [if_neg (by omega), if_neg (by omega), if_pos (by omega), if_pos ⟨by omega, by omega, by omega, h⟩]
      · rw [if_neg h3]
        have e : (((240 + c / 262144) % 8 * 64 + (128 + c / 4096 % 64) % 64) * 64 + (128 + c / 64 % 64) % 64) * 64 + (128 + c % 64) % 64 = c := by omega
        simp only [List.cons_append, List.nil_append, decN, List.length_cons, List.length_nil, e]
        rw [if_neg (by omega), if_neg (by omega), if_neg (by omega), if_pos (by omega), if_pos ⟨by omega, by omega, by omega, by omega, h⟩]
theorem decN_inv (l : List Nat) (hl : ∀ x ∈ l, x < 256) {c n : Nat} (h : decN l = some (c, n)) : isC c ∧ n = (encN c).length ∧ l.take n = encN c := by
  cases l with
  | nil => cases h
  | cons a l =>
    have ha := hl a (by simp)
    simp only [decN] at h
    by_cases h1 : a < 128
    · rw [if_pos h1] at h
      cases h
      refine ⟨⟨by omega, by omega⟩, ?_, ?_⟩
      · unfold encN; rw [if_pos h1]; rfl
      · unfold encN; rw [if_pos h1]; rfl
    · rw [if_neg h1] at h
      by_cases h2 : a / 32 = 6
      · rw [if_pos h2] at h
        cases l with
        | nil => cases h
        | cons b l =>
          have hb := hl b (by simp)
          simp only at h
          split at h
          · rename_i hc
            cases h
            have e : encN (a % 32 * 64 + b % 64) = [a, b] := by
              unfold encN
              rw [if_neg (by omega), if_pos (by omega)]
              congr 1
              · omega
              · congr 1; omega
            rw [e]
            exact ⟨⟨by omega, by omega⟩, rfl, rfl⟩
          · cases h
      · rw [if_neg h2] at h
        by_cases h3 : a / 16 = 14
        · rw [if_pos h3] at h
          match l, h with
          | b :: d :: l, h =>
            have hb := hl b (by simp)
            have hd := hl d (by simp)
            simp only at h
            split at h
            · rename_i hc
              cases h
              have e : encN ((a % 16 * 64 + b % 64) * 64 + d % 64) = [a, b, d] := by
                unfold encN
                rw [if_neg (by omega), if_neg (by omega), if_pos (by omega)]
                congr 1
                · omega
                · congr 1
                  · omega
                  · congr 1; omega
              rw [e]
              exact ⟨hc.2.2.2, rfl, rfl⟩
            · cases h
        · rw [if_neg h3] at h
          by_cases h4 : a / 8 = 30
          · rw [if_pos h4] at h
            match l, h with
            | b :: d :: f :: l, h =>
              have hb := hl b (by simp)
              have hd := hl d (by simp)
              have hf := hl f (by simp)
              simp only at h
              split at h
              · rename_i hc
                cases h
                have e : encN (((a % 8 * 64 + b % 64) * 64 + d % 64) * 64 + f % 64) = [a, b, d, f] := by
                  unfold encN
                  rw [if_neg (by omega), if_neg (by omega), if_neg (by omega)]
                  congr 1
                  · omega
                  · congr 1
                    · omega
                    · congr 1
                      · omega
                      · congr 1; omega
                rw [e]
                exact ⟨hc.2.2.2.2, rfl, rfl⟩
              · cases h
          · rw [if_neg h4] at h
            cases h
theorem nat_small (l : List UInt8) : ∀ x ∈ nat l, x < 256 := by
  intro x hx
  unfold nat at hx
  rw [List.mem_map] at hx
  obtain ⟨b, _, rfl⟩ := hx
  exact b.toNat_lt
theorem nat_app (a b : List UInt8) : nat (a ++ b) = nat a ++ nat b := by simp [nat]
theorem nat_inj {a b : List UInt8} (h : nat a = nat b) : a = b := by
  unfold nat at h
  exact (List.map_inj_right (fun _ _ => UInt8.toNat_inj.1)).1 h
theorem dec_enc (c : Nat) (h : isC c) (r : List UInt8) : dec (enc c ++ r) = some (c, (enc c).length) := by
  unfold dec
  rw [nat_app, nat_enc c h, decN_enc c h, enc_length]
theorem dec_inv {l : List UInt8} {c n : Nat} (h : dec l = some (c, n)) : isC c ∧ n = (enc c).length ∧ l = enc c ++ l.drop n := by
  obtain ⟨h1, h2, h3⟩ := decN_inv (nat l) (nat_small l) h
  refine ⟨h1, by rw [enc_length]; exact h2, ?_⟩
  have e : l.take n = enc c := by
    apply nat_inj
    rw [nat_enc c h1, ← h3]
    simp [nat, List.map_take]
  rw [← e, List.take_append_drop]
theorem dec_le {l : List UInt8} {c n : Nat} (h : dec l = some (c, n)) : 1 ≤ n ∧ n ≤ 4 ∧ n ≤ l.length := by
  obtain ⟨_, h2, h3⟩ := dec_inv h
  have := enc_len c
  have h4 := congrArg List.length h3
  rw [List.length_append] at h4
  omega
def chs (l : List UInt8) : Option (List Nat) :=
  match h : dec l with
  | none => if l = [] then some [] else none
  | some (c, n) => (chs (l.drop n)).map (c :: ·)
termination_by l.length
decreasing_by
  have := dec_le h
  rw [List.length_drop]
  omega
theorem chs_nil : chs [] = some [] := by
  rw [chs]
  split
  · rfl
  · rename_i h
    cases h
theorem chs_none {l : List UInt8} (h : dec l = none) (hl : l ≠ []) : chs l = none := by
  rw [chs]
  split
  · rw [if_neg hl]
  · rename_i h'
    rw [h] at h'
    cases h'
theorem chs_some {l : List UInt8} {c n : Nat} (h : dec l = some (c, n)) : chs l = (chs (l.drop n)).map (c :: ·) := by
  rw [chs]
  split
  · rename_i h'
    rw [h] at h'
    cases h'
  · rename_i c' n' h'
    rw [h] at h'
    cases h'
    rfl
def encs (cs : List Nat) : List UInt8 := cs.flatMap enc
theorem encs_cons (c : Nat) (cs : List Nat) : encs (c :: cs) = enc c ++ encs cs := by simp [encs]
theorem chs_cons (c : Nat) (h : isC c) (r : List UInt8) : chs (enc c ++ r) = (chs r).map (c :: ·) := by
  rw [chs_some (dec_enc c h r), List.drop_left]
theorem chs_encs (cs : List Nat) (h : ∀ c ∈ cs, isC c) (r : List UInt8) : chs (encs cs ++ r) = (chs r).map (cs ++ ·) := by
  induction cs with
  | nil => cases hr : chs r <;> simp [encs, hr]
  | cons c cs ih =>
    rw [encs_cons, List.append_assoc, chs_cons c (h c (by simp)), ih (fun x hx => h x (by simp [hx]))]
    cases chs r <;> simp
theorem chs_all (cs : List Nat) (h : ∀ c ∈ cs, isC c) : chs (encs cs) = some cs := by
  have := chs_encs cs h []
  rw [List.append_nil, chs_nil] at this
  simpa using this
theorem chs_inv (n : Nat) : ∀ (l : List UInt8) (cs : List Nat), l.length ≤ n → chs l = some cs → (∀ c ∈ cs, isC c) ∧ l = encs cs := by
  induction n with
  | zero =>
    intro l cs hl h
    obtain rfl : l = [] := List.length_eq_zero_iff.mp (by omega)
    rw [chs_nil] at h
    cases h
    exact ⟨by simp, rfl⟩
  | succ n ih =>
    intro l cs hl h
    cases hd : dec l with
    | none =>
      by_cases h0 : l = []
      · subst h0
        rw [chs_nil] at h
        cases h
        exact ⟨by simp, rfl⟩
      · rw [chs_none hd h0] at h
        cases h
    | some x =>
      obtain ⟨c, k⟩ := x
      have hk := dec_le hd
      obtain ⟨i1, i2, i3⟩ := dec_inv hd
      rw [chs_some hd] at h
      cases hr : chs (l.drop k) with
      | none => rw [hr] at h; cases h
      | some ds =>
        rw [hr] at h
        cases h
        obtain ⟨j1, j2⟩ := ih (l.drop k) ds (by rw [List.length_drop]; omega) hr
        refine ⟨fun x hx => ?_, ?_⟩
        · rw [List.mem_cons] at hx
          rcases hx with rfl | hx
          · exact i1
          · exact j1 x hx
        · rw [encs_cons, ← j2]
          exact i3
theorem chs_iff {l : List UInt8} {cs : List Nat} : chs l = some cs ↔ (∀ c ∈ cs, isC c) ∧ l = encs cs :=
  ⟨chs_inv l.length l cs (Nat.le_refl _), fun ⟨h, e⟩ => by rw [e]; exact chs_all cs h⟩
theorem chs_length {l : List UInt8} {cs : List Nat} (h : chs l = some cs) : cs.length ≤ l.length := by
  obtain ⟨h1, e⟩ := chs_iff.1 h
  rw [e]
  clear h e h1
  induction cs with
  | nil => simp [encs]
  | cons c cs ih => rw [encs_cons, List.length_append]; have := enc_len c; simp; omega
def cont (b : UInt8) : Prop := b.toNat / 64 = 2
instance (b : UInt8) : Decidable (cont b) := by unfold cont; infer_instance
end Go.Proofs.YtipenplplmdclaaDoor.Utf
end
section
namespace Go.Proofs.YtipenplplmdclaaDoor.Utf
open Go
theorem enc_ascii (c : Nat) (h : c < 128) : enc c = [UInt8.ofNat c] := by
  unfold enc encN
  rw [if_pos h]
  rfl
theorem enc_u8 (b : UInt8) (h : b.toNat < 128) : enc b.toNat = [b] := by
  rw [enc_ascii _ h]
  congr 1
  simp
def calm (c : Nat) : Prop := 32 ≤ c ∧ c ≠ 127
instance (c : Nat) : Decidable (calm c) := by unfold calm; infer_instance
end Go.Proofs.YtipenplplmdclaaDoor.Utf
end
section
namespace Go.Proofs.YtipenplplmdclaaDoor.Utf
open Go Go.RowKit Go.Proofs.YtipenplplmdclaaDoor.Px Go.Proofs.YtipenplplmdclaaDoorW.PrintWords Go.Proofs.YtipenplplmdclaaDoor.Str
theorem is_f (c : Nat) : utf_is.f (c : Int) = some (decide (isC c)) := by
  unfold utf_is.f
  rw [if_pos (by omega)]
  by_cases h1 : c ≤ 1114111
  · rw [if_pos (by omega)]
    by_cases h2 : c < 55296
    · rw [if_pos (by omega), decide_eq_true (show isC c from ⟨h1, .inl h2⟩)]
    · rw [if_neg (by omega)]
      congr 1
      rw [Bool.eq_iff_iff, decide_eq_true_eq, decide_eq_true_eq]
      unfold isC
      omega
  · rw [if_neg (by omega), decide_eq_false (fun z : isC c => h1 z.1)]
theorem f63 : ∀ b : Fin 256, Go.bits .and .u8 (b.val : Int) 63 = ((b.val % 64 : Nat) : Int) := by decide +kernel
theorem f31 : ∀ b : Fin 256, Go.bits .and .u8 (b.val : Int) 31 = ((b.val % 32 : Nat) : Int) := by decide +kernel
theorem f15 : ∀ b : Fin 256, Go.bits .and .u8 (b.val : Int) 15 = ((b.val % 16 : Nat) : Int) := by decide +kernel
theorem f7 : ∀ b : Fin 256, Go.bits .and .u8 (b.val : Int) 7 = ((b.val % 8 : Nat) : Int) := by decide +kernel
theorem or_i64 (x y : Nat) (hx : x % 64 = 0) (hx1 : x < 4611686018427387904) (hy : y < 64) : Go.bits .or .i64 (x : Int) (y : Int) = ((x + y : Nat) : Int) := by
  rw [bits_join .i64 63 (by decide) (fun n h0 h1 => by rw [IntKind.wrap_i64]; omega) 6 (x : Int) (y : Int) (by omega) (by omega) (by omega) (by omega) (by omega) (by omega)]
  omega
def at_ (s : ByteArray) (i : Nat) : Nat := (s.data.toList.getD i 0).toNat
theorem at_lt (s : ByteArray) (i : Nat) : at_ s i < 256 := (s.data.toList.getD i 0).toNat_lt
theorem bt_at {s : ByteArray} {i : Nat} (h : i < s.size) : bt s (i : Int) = (at_ s i : Int) := bt_L h
theorem first_step (s : ByteArray) (k c n i : Nat) (hc : c < 2097152) (hi : i < n) (hs : i < s.size) (hi8 : i < 8) :
    utf_First.l0 (k + 1) s (c : Int) (n : Int) (i : Int) = if at_ s i / 64 = 2 then utf_First.l0 k s ((c * 64 + at_ s i % 64 : Nat) : Int) (n : Int) ((i + 1 : Nat) : Int) else some (0, 0, 40) := by
  have hb := at_lt s i
  simp only [utf_First.l0]
  rw [if_pos (by omega), if_pos (by omega), if_pos (by omega), bt_at hs]
  have e := f63 ⟨at_ s i, hb⟩
  simp only at e
  rw [e, wrap64_id (x := (c : Int) * 64) (by omega) (by omega), wrap64_id (x := ((at_ s i % 64 : Nat) : Int)) (by omega) (by omega), show (c : Int) * 64 = ((c * 64 : Nat) : Int) by omega,
    or_i64 (c * 64) (at_ s i % 64) (by omega) (by omega) (by omega), wrap64_id (by omega) (by omega)]
  by_cases h : at_ s i / 64 = 2
  · rw [if_pos (by omega), if_pos h]
    rfl
  · rw [if_neg (by omega), if_neg h]
def lst (n : Nat) : Nat := if n = 2 then 128 else if n = 3 then 2048 else if n = 4 then 65536 else 0
theorem first_end (s : ByteArray) (k c n : Nat) : utf_First.l0 (k + 1) s (c : Int) (n : Int) (n : Int) = some (if isC c ∧ lst n ≤ c then ((c : Int), (n : Int), (0 : Int)) else (0, 0, 40)) := by
  simp only [utf_First.l0]
  rw [if_neg (by omega), is_f]
  simp only [Option.bind_some, decide_eq_true_eq]
  by_cases h : isC c
  · rw [if_pos h]
    have hl : utf_least.f (n : Int) = some ((lst n : Nat) : Int) := by
      unfold utf_least.f lst
      by_cases h2 : n = 2
      · rw [if_pos (by omega), if_pos h2]; rfl
      · rw [if_neg (by omega), if_neg h2]
        by_cases h3 : n = 3
        · rw [if_pos (by omega), if_pos h3]; rfl
        · rw [if_neg (by omega), if_neg h3]
          by_cases h4 : n = 4
          · rw [if_pos (by omega), if_pos h4]; rfl
          · rw [if_neg (by omega), if_neg h4]; rfl
    rw [hl]
    simp only [Option.bind_some]
    by_cases hc : lst n ≤ c
    · rw [if_neg (by omega), if_pos ⟨h, hc⟩]
    · rw [if_pos (by omega), if_neg (fun z => hc z.2)]
  · rw [if_neg h, if_neg (fun z => h z.1)]
def decR (l : List UInt8) : Int × Int × Int := match dec l with | some (c, n) => ((c : Int), (n : Int), 0) | none => (0, 0, 40)
theorem decR_some {l : List UInt8} {c n : Nat} (h : dec l = some (c, n)) : decR l = ((c : Int), (n : Int), 0) := by unfold decR; rw [h]
theorem decR_none {l : List UInt8} (h : dec l = none) : decR l = (0, 0, 40) := by unfold decR; rw [h]
theorem first_k (s : ByteArray) (k : Nat) : utf_First.f (k + 5) s = some (decR s.data.toList) := by
  unfold utf_First.f
  rw [toList_L]
  cases hl : s.data.toList with
  | nil => rw [if_pos rfl]; rfl
  | cons a l =>
    have hsz : s.size = l.length + 1 := by rw [size_L, hl]; rfl
    have ha : at_ s 0 = a.toNat := by unfold at_; rw [hl]; rfl
    have hal := a.toNat_lt
    have hb0 : bt s 0 = (a.toNat : Int) := by
      have := bt_at (s := s) (i := 0) (by omega)
      rw [ha] at this
      exact this
    rw [if_neg (by simp), if_pos (by omega), hb0]
    unfold utf_long.f
    have gen : ∀ (n c : Nat), n ≠ 0 → (if (n : Int) = 0 then utf_First.j0 (k + 5) s (c : Int) (n : Int) true else utf_First.j0 (k + 5) s (c : Int) (n : Int) (decide ((n : Int) > (s.size : Int)))) = if n ≤ s.size then utf_First.l0 (k + 4) s (c : Int) (n : Int) ((1 : Nat) : Int) else some (0, 0, 40) := by
      intro n c h0
      rw [if_neg (by omega)]
      simp only [utf_First.j0, decide_eq_true_eq]
      by_cases h : n ≤ s.size
      · rw [if_neg (by omega), if_pos h]; rfl
      · rw [if_pos (by omega), if_neg h]
    have fl : ∀ m : Nat, m < 256 → wrap64 (m : Int) = (m : Int) := fun m hm => wrap64_id (by omega) (by omega)
    have na : nat (a :: l) = a.toNat :: nat l := rfl
    by_cases h1 : a.toNat < 128
    · rw [if_pos (by omega), fl _ hal]
      simp only [Option.bind_some]
      have g := gen 1 a.toNat (by decide)
      rw [show ((1 : Nat) : Int) = 1 from rfl] at g
      rw [g, if_pos (by omega)]
      have e := first_end s (k + 3) a.toNat 1
      rw [show ((1 : Nat) : Int) = 1 from rfl] at e
      rw [e, if_pos ⟨⟨by omega, by omega⟩, by show 0 ≤ _; omega⟩]
      unfold decR dec
      rw [na]
      simp only [decN, if_pos h1]
      rfl
    · rw [if_neg (by omega)]
      by_cases h2 : a.toNat / 32 = 6
      · have e31 := f31 ⟨a.toNat, hal⟩
        simp only at e31
        rw [if_pos (by omega), e31, fl _ (by omega)]
        simp only [Option.bind_some]
        have g := gen 2 (a.toNat % 32) (by decide)
        rw [show ((2 : Nat) : Int) = 2 from rfl] at g
        rw [g]
        cases l with
        | nil =>
          rw [if_neg (by simp at hsz; omega)]
          unfold decR dec
          rw [na]
          simp only [decN, if_neg h1, if_pos h2, nat, List.map_nil]
        | cons b l =>
          have hb : at_ s 1 = b.toNat := by unfold at_; rw [hl]; rfl
          have hbl := b.toNat_lt
          have st := first_step s (k + 3) (a.toNat % 32) 2 1 (by omega) (by decide) (by simp at hsz; omega) (by decide)
          have en := first_end s (k + 2) (a.toNat % 32 * 64 + b.toNat % 64) 2
          rw [show ((2 : Nat) : Int) = 2 from rfl] at st en
          rw [if_pos (by simp at hsz; omega), st, hb]
          unfold decR dec
          rw [na]
          simp only [decN, if_neg h1, if_pos h2, nat, List.map_cons]
          by_cases c1 : b.toNat / 64 = 2
          · rw [if_pos c1, en]
            by_cases c2 : lst 2 ≤ a.toNat % 32 * 64 + b.toNat % 64
            · rw [if_pos ⟨⟨by omega, by omega⟩, c2⟩, if_pos ⟨c1, c2⟩]
              rfl
            · rw [if_neg (fun z => c2 z.2), if_neg (fun z => c2 z.2)]
          · rw [if_neg c1, if_neg (fun z => c1 z.1)]
      · rw [if_neg (by omega)]
        by_cases h3 : a.toNat / 16 = 14
        · have e15 := f15 ⟨a.toNat, hal⟩
          simp only at e15
          rw [if_pos (by omega), e15, fl _ (by omega)]
          simp only [Option.bind_some]
          have g := gen 3 (a.toNat % 16) (by decide)
          rw [show ((3 : Nat) : Int) = 3 from rfl] at g
          rw [g]
          match l, hl, hsz, na with
          | [], hl, hsz, na =>
            rw [if_neg (by simp at hsz; omega)]
            unfold decR dec
            rw [na]
            simp only [decN, if_neg h1, if_neg h2, if_pos h3, nat, List.map_nil]
          | [b], hl, hsz, na =>
            rw [if_neg (by simp at hsz; omega)]
            unfold decR dec
            rw [na]
            simp only [decN, if_neg h1, if_neg h2, if_pos h3, nat, List.map_cons, List.map_nil]
          | b :: d :: l, hl, hsz, na =>
            have hb : at_ s 1 = b.toNat := by unfold at_; rw [hl]; rfl
            have hd : at_ s 2 = d.toNat := by unfold at_; rw [hl]; rfl
            have hbl := b.toNat_lt
            have hdl := d.toNat_lt
            simp only [List.length_cons] at hsz
            have s1 := first_step s (k + 3) (a.toNat % 16) 3 1 (by omega) (by decide) (by omega) (by decide)
            have s2 := first_step s (k + 2) (a.toNat % 16 * 64 + b.toNat % 64) 3 2 (by omega) (by decide) (by omega) (by decide)
            have en := first_end s (k + 1) ((a.toNat % 16 * 64 + b.toNat % 64) * 64 + d.toNat % 64) 3
            rw [show ((3 : Nat) : Int) = 3 from rfl] at s1 s2 en
            rw [if_pos (by omega), s1, hb]
            unfold decR dec
            rw [na]
            simp only [decN, if_neg h1, if_neg h2, if_pos h3, nat, List.map_cons]
            by_cases c1 : b.toNat / 64 = 2
            · rw [if_pos c1, show (1 + 1 : Nat) = 2 from rfl, s2, hd]
              by_cases c2 : d.toNat / 64 = 2
              · rw [if_pos c2, en]
                by_cases c3 : isC ((a.toNat % 16 * 64 + b.toNat % 64) * 64 + d.toNat % 64) ∧ lst 3 ≤ (a.toNat % 16 * 64 + b.toNat % 64) * 64 + d.toNat % 64
                · rw [if_pos c3, if_pos ⟨c1, c2, c3.2, c3.1⟩]
                  rfl
                · rw [if_neg c3, if_neg (fun z => c3 ⟨z.2.2.2, z.2.2.1⟩)]
              · rw [if_neg c2, if_neg (fun z => c2 z.2.1)]
            · rw [if_neg c1, if_neg (fun z => c1 z.1)]
        · rw [if_neg (by omega)]
          by_cases h4 : a.toNat / 8 = 30
          · have e7 := f7 ⟨a.toNat, hal⟩
            simp only at e7
            rw [if_pos (by omega), e7, fl _ (by omega)]
            simp only [Option.bind_some]
            have g := gen 4 (a.toNat % 8) (by decide)
            rw [show ((4 : Nat) : Int) = 4 from rfl] at g
            rw [g]
            match l, hl, hsz, na with
            | [], hl, hsz, na =>
              rw [if_neg (by simp at hsz; omega)]
              unfold decR dec
              rw [na]
              simp only [decN, if_neg h1, if_neg h2, if_neg h3, if_pos h4, nat, List.map_nil]
            | [b], hl, hsz, na =>
              rw [if_neg (by simp at hsz; omega)]
              unfold decR dec
              rw [na]
              simp only [decN, if_neg h1, if_neg h2, if_neg h3, if_pos h4, nat, List.map_cons, List.map_nil]
            | [b, d], hl, hsz, na =>
              rw [if_neg (by simp at hsz; omega)]
              unfold decR dec
              rw [na]
              simp only [decN, if_neg h1, if_neg h2, if_neg h3, if_pos h4, nat, List.map_cons, List.map_nil]
            | b :: d :: f :: l, hl, hsz, na =>
              have hb : at_ s 1 = b.toNat := by unfold at_; rw [hl]; rfl
              have hd : at_ s 2 = d.toNat := by unfold at_; rw [hl]; rfl
              have hf : at_ s 3 = f.toNat := by unfold at_; rw [hl]; rfl
              have hbl := b.toNat_lt
              have hdl := d.toNat_lt
              have hfl := f.toNat_lt
              simp only [List.length_cons] at hsz
              have s1 := first_step s (k + 3) (a.toNat % 8) 4 1 (by omega) (by decide) (by omega) (by decide)
              have s2 := first_step s (k + 2) (a.toNat % 8 * 64 + b.toNat % 64) 4 2 (by omega) (by decide) (by omega) (by decide)
              have s3 := first_step s (k + 1) ((a.toNat % 8 * 64 + b.toNat % 64) * 64 + d.toNat % 64) 4 3 (by omega) (by decide) (by omega) (by decide)
              have en := first_end s k (((a.toNat % 8 * 64 + b.toNat % 64) * 64 + d.toNat % 64) * 64 + f.toNat % 64) 4
              rw [show ((4 : Nat) : Int) = 4 from rfl] at s1 s2 s3 en
              rw [if_pos (by omega), s1, hb]
              unfold decR dec
              rw [na]
              simp only [decN, if_neg h1, if_neg h2, if_neg h3, if_pos h4, nat, List.map_cons]
              by_cases c1 : b.toNat / 64 = 2
              · rw [if_pos c1, show (1 + 1 : Nat) = 2 from rfl, s2, hd]
                by_cases c2 : d.toNat / 64 = 2
                · rw [if_pos c2, show (2 + 1 : Nat) = 3 from rfl, s3, hf]
                  by_cases c4 : f.toNat / 64 = 2
                  · rw [if_pos c4, en]
                    by_cases c3 : isC (((a.toNat % 8 * 64 + b.toNat % 64) * 64 + d.toNat % 64) * 64 + f.toNat % 64) ∧ lst 4 ≤ ((a.toNat % 8 * 64 + b.toNat % 64) * 64 + d.toNat % 64) * 64 + f.toNat % 64
                    · rw [if_pos c3, if_pos ⟨c1, c2, c4, c3.2, c3.1⟩]
                      rfl
                    · rw [if_neg c3, if_neg (fun z => c3 ⟨z.2.2.2.2, z.2.2.2.1⟩)]
                  · rw [if_neg c4, if_neg (fun z => c4 z.2.2.1)]
                · rw [if_neg c2, if_neg (fun z => c2 z.2.1)]
              · rw [if_neg c1, if_neg (fun z => c1 z.1)]
          · rw [if_neg (by omega)]
            simp only [Option.bind_some, if_true, utf_First.j0]
            unfold decR dec
            rw [na]
            simp only [decN, if_neg h1, if_neg h2, if_neg h3, if_neg h4]
theorem first_ev (s : ByteArray) : Ev (fun k => utf_First.f k s) (decR s.data.toList) :=
  ⟨5, fun k hk => by obtain ⟨j, rfl⟩ : ∃ j, k = j + 5 := ⟨k - 5, by omega⟩; exact first_k s j⟩
def ints (cs : List Nat) : List Int := cs.map fun c : Nat => (c : Int)
def chsR (acc : List Int) (l : List UInt8) : List Int × Int := match chs l with | some cs => (acc ++ ints cs, 0) | none => ([], 40)
theorem chsR_some {acc : List Int} {l : List UInt8} {cs : List Nat} (h : chs l = some cs) : chsR acc l = (acc ++ ints cs, 0) := by unfold chsR; rw [h]
theorem chsR_none {acc : List Int} {l : List UInt8} (h : chs l = none) : chsR acc l = ([], 40) := by unfold chsR; rw [h]
theorem chsR_step {acc : List Int} {l : List UInt8} {c n : Nat} (h : dec l = some (c, n)) : chsR acc l = chsR (acc ++ [(c : Int)]) (l.drop n) := by
  cases hr : chs (l.drop n) with
  | none => rw [chsR_none hr, chsR_none (by rw [chs_some h, hr]; rfl)]
  | some cs => rw [chsR_some hr, chsR_some (cs := c :: cs) (by rw [chs_some h, hr]; rfl)]; simp [ints]
theorem chars_l0 (n : Nat) : ∀ (s : ByteArray) (acc : List Int), s.size ≤ n → acc.length + s.size ≤ 1073741824 → Ev (fun k => utf_Chars.l0 k s acc) (chsR acc s.data.toList) := by
  induction n with
  | zero =>
    intro s acc hs _
    have h0 : s.data.toList = [] := List.length_eq_zero_iff.mp (by rw [← size_L]; omega)
    rw [h0, chsR_some chs_nil]
    refine Ev.step (f := fun _ => some _) (fun k => ?_) (Ev.now _)
    simp only [utf_Chars.l0]
    rw [if_pos (by rw [toList_L, h0])]
    simp [ints]
  | succ n ih =>
    intro s acc hs ha
    by_cases h0 : s.data.toList = []
    · rw [h0, chsR_some chs_nil]
      refine Ev.step (f := fun _ => some _) (fun k => ?_) (Ev.now _)
      simp only [utf_Chars.l0]
      rw [if_pos (by rw [toList_L, h0])]
      simp [ints]
    · cases hd : dec s.data.toList with
      | none =>
        rw [chsR_none (chs_none hd h0)]
        refine Ev.step (f := fun k => (utf_First.f k s).bind fun _ => some (([] : List Int), (40 : Int))) (fun k => ?_) (Ev.bind (first_ev s) (Ev.now _))
        simp only [utf_Chars.l0]
        rw [if_neg (by rw [toList_L]; exact h0)]
        cases hf : utf_First.f k s with
        | none => rfl
        | some x =>
          have h5 := at_rounds (g := fun k => utf_First.f k s) (fun k => utf_First.mono s k) (show k ≤ k + 5 by omega) hf
          rw [first_k, decR_none hd] at h5
          cases h5
          rfl
      | some x =>
        obtain ⟨c, m⟩ := x
        have hm := dec_le hd
        rw [← size_L] at hm
        rw [chsR_step hd]
        have h := ih (s.extract m s.size) (acc ++ [(c : Int)]) (by rw [size_L, post_L, List.length_drop, ← size_L]; omega) (by rw [size_L, post_L, List.length_drop, ← size_L, List.length_append]; simp; omega)
        rw [post_L] at h
        refine Ev.step (f := fun k => (utf_First.f k s).bind fun b => if b.2.2 = 0 then (if acc.length < 17592186044416 then (if 0 ≤ b.2.1 then (if b.2.1 ≤ (s.size : Int) then (utf_Chars.l0 k (s.extract (b.2.1 : Int).toNat s.size) (acc ++ [b.1])) else none) else none) else none) else some (([] : List Int), b.2.2)) (fun k => ?_) ?_
        · simp only [utf_Chars.l0]
          rw [if_neg (by rw [toList_L]; exact h0)]
        · refine Ev.bind (first_ev s) ?_
          rw [decR_some hd]
          refine Ev.congr (fun k => ?_) h
          simp only [if_true]
          rw [if_pos (by omega), if_pos (by omega), if_pos (by omega), Int.toNat_natCast]
theorem chars_ev (s : ByteArray) (hs : s.size ≤ 1073741824) : Ev (fun k => utf_Chars.f k s) (chsR [] s.data.toList) := by
  unfold utf_Chars.f
  exact chars_l0 s.size s [] (Nat.le_refl _) (by simpa using hs)
end Go.Proofs.YtipenplplmdclaaDoor.Utf
end
section
namespace Go.Proofs.YtipenplplmdclaaDoor.Utf
open Go Go.RowKit Go.Proofs.YtipenplplmdclaaDoor.Px Go.Proofs.YtipenplplmdclaaDoorW.PrintWords Go.Proofs.YtipenplplmdclaaDoor.Str
def gs (f : Nat → Nat) (n : Nat) : Nat :=
  if n = 1 then f 0 else if n = 2 then f 0 % 32 * 64 + f 1 % 64
  else if n = 3 then (f 0 % 16 * 64 + f 1 % 64) * 64 + f 2 % 64
  else ((f 0 % 8 * 64 + f 1 % 64) * 64 + f 2 % 64) * 64 + f 3 % 64
end Go.Proofs.YtipenplplmdclaaDoor.Utf
end
section
namespace Go.Proofs.YtipenplplmdclaaDoor.Tkt
open Go Go.RowKit Go.Proofs.YtipenplplmdclaaDoor.Px Go.Proofs.YtipenplplmdclaaDoorW.PrintWords Go.Proofs.YtipenplplmdclaaDoor.Str Go.Proofs.YtipenplplmdclaaDoor.Utf
set_option linter.unusedSimpArgs false
set_option linter.unusedVariables false
theorem ev_succ {α : Type} {g : Nat → Option α} {r : α} (K : Nat) (h : ∀ k, K ≤ k → g (k + 1) = some r) : Ev g r := ⟨K + 1, fun k hk => by
  obtain ⟨k', rfl⟩ : ∃ k', k = k' + 1 := ⟨k - 1, by omega⟩
  exact h k' (by omega)⟩
def plB (s : ByteArray) (m : Int) : Bool := match chs s.data.toList with | some cs => !((ints cs).any norm_plain.ctl) && decide ((s.size : Int) ≤ m) | none => false
theorem plain_ev (s : ByteArray) (m : Int) (hs : s.size ≤ 1073741824) : Ev (fun k => norm_plain.f k s m) (plB s m) := by
  unfold norm_plain.f plB
  refine Ev.bind (chars_ev s hs) ?_
  cases h : chs s.data.toList with
  | none =>
    rw [chsR_none h]
    exact Ev.congr (f := fun _ => some false) (fun k => by simp) (Ev.now _)
  | some cs =>
    rw [chsR_some h]
    have hl := chs_length h
    have : s.data.toList.length = s.size := by simp
    refine Ev.congr (f := fun _ => some (!((ints cs).any norm_plain.ctl) && decide ((s.size : Int) ≤ m))) (fun k => ?_) (Ev.now _)
    simp only [List.nil_append]
    rw [if_pos (by simp [ints]; omega)]
    simp
def evB (a b c : ByteArray) (n : Int) (d : ByteArray) : Bool := !(decide (a.toList = [])) && (!(decide (b.toList = [])) && (plB a 64 && (plB b 64 && (plB c 128 && (plB d 1024 && (decide (0 ≤ n) && decide (n ≤ 5)))))))
theorem ncheck_ev (a b c : ByteArray) (n : Int) (d : ByteArray) (ha : a.size ≤ 1073741824) (hb : b.size ≤ 1073741824) (hc : c.size ≤ 1073741824) (hd : d.size ≤ 1073741824) : Ev (fun k => norm_Check.f k a b c n d) (if evB a b c n d = true then 0 else 180) := by
  obtain ⟨K1, h1⟩ := plain_ev a 64 ha
  obtain ⟨K2, h2⟩ := plain_ev b 64 hb
  obtain ⟨K3, h3⟩ := plain_ev c 128 hc
  obtain ⟨K4, h4⟩ := plain_ev d 1024 hd
  refine ev_succ (K1 + K2 + K3 + K4) fun k hk => ?_
  simp only [norm_Check.f, norm_Check.j0, h1 (k + 1) (by omega), h2 (k + 1) (by omega), h3 k (by omega), h4 k (by omega), Option.bind_some, evB]
  by_cases e1 : a.toList = []
  · simp [e1]
  by_cases e2 : b.toList = []
  · simp [e1, e2]
  rcases (by omega : n < 0 ∨ 5 < n ∨ (0 ≤ n ∧ n ≤ 5)) with q | q | ⟨q, q'⟩
  · have r3 : ¬ (0 ≤ n) := by omega
    rcases Bool.eq_false_or_eq_true (plB a 64) with p1 | p1 <;> rcases Bool.eq_false_or_eq_true (plB b 64) with p2 | p2 <;> rcases Bool.eq_false_or_eq_true (plB c 128) with p3 | p3 <;> rcases Bool.eq_false_or_eq_true (plB d 1024) with p4 | p4 <;> simp [e1, e2, p1, p2, p3, p4, q, r3]
  · have r1 : ¬ (n < 0) := by omega
    have r2 : n > 5 := q
    have r4 : ¬ (n ≤ 5) := by omega
    rcases Bool.eq_false_or_eq_true (plB a 64) with p1 | p1 <;> rcases Bool.eq_false_or_eq_true (plB b 64) with p2 | p2 <;> rcases Bool.eq_false_or_eq_true (plB c 128) with p3 | p3 <;> rcases Bool.eq_false_or_eq_true (plB d 1024) with p4 | p4 <;> simp [e1, e2, p1, p2, p3, p4, q, r1, r2, r4]
  · have r1 : ¬ (n < 0) := by omega
    have r2 : ¬ (n > 5) := by omega
    have r5 : ¬ (5 < n) := by omega
    rcases Bool.eq_false_or_eq_true (plB a 64) with p1 | p1 <;> rcases Bool.eq_false_or_eq_true (plB b 64) with p2 | p2 <;> rcases Bool.eq_false_or_eq_true (plB c 128) with p3 | p3 <;> rcases Bool.eq_false_or_eq_true (plB d 1024) with p4 | p4 <;> simp [e1, e2, p1, p2, p3, p4, q, q', r1, r2, r5]
def whoB (s : ByteArray) : Bool := !(decide (s.toList = [])) && plB s 64
theorem pl_ascii (b : UInt8) (h : 32 ≤ b.toNat ∧ b.toNat < 127) (m : Int) (hm : 1 ≤ m) : plB (⟨#[b]⟩ : ByteArray) m = true := by
  have hc : isC b.toNat := by unfold isC; omega
  have he : encs [b.toNat] = [b] := by rw [encs_cons, enc_u8 b (by omega)]; rfl
  have := chs_all [b.toNat] (by simpa using hc)
  rw [he] at this
  have e2 : chs (⟨#[b]⟩ : ByteArray).data.toList = some [b.toNat] := this
  unfold plB
  rw [e2]
  have hn : norm_plain.ctl (b.toNat : Int) = false := decide_eq_false (by omega)
  simp only [ints, List.map_cons, List.map_nil, List.any_cons, List.any_nil, hn, Bool.or_false, Bool.not_false, Bool.true_and]
  exact decide_eq_true (by show ((1 : Nat) : Int) ≤ m; omega)
theorem pl_empty (m : Int) (hm : 0 ≤ m) : plB (⟨#[]⟩ : ByteArray) m = true := by
  have e2 : chs (⟨#[]⟩ : ByteArray).data.toList = some [] := chs_nil
  unfold plB
  rw [e2]
  simp only [ints, List.map_nil, List.any_nil, Bool.not_false, Bool.true_and]
  exact decide_eq_true (by show ((0 : Nat) : Int) ≤ m; omega)
theorem who_one (s : ByteArray) (b : UInt8) (h : 32 ≤ b.toNat ∧ b.toNat < 127) : evB s (⟨#[b]⟩ : ByteArray) (⟨#[]⟩ : ByteArray) 0 (⟨#[]⟩ : ByteArray) = whoB s := by
  have hb : ¬ ((⟨#[b]⟩ : ByteArray).toList = []) := by rw [toList_L]; simp
  simp [evB, whoB, pl_ascii b h, pl_empty, hb]
theorem who_ev (s : ByteArray) (hs : s.size ≤ 1073741824) : Ev (fun k => board_isWho.f k s) (whoB s) := by
  unfold board_isWho.f
  refine Ev.bind (ncheck_ev s _ _ 0 _ hs (by decide) (by decide) (by decide)) ?_
  rw [who_one s 99 (by decide)]
  exact Ev.congr (f := fun _ => some (whoB s)) (fun k => by cases whoB s <;> rfl) (Ev.now _)
def timesB (f l : Int) : Bool := decide (0 ≤ f ∧ f ≤ 2305843009213693952 ∧ 0 ≤ l ∧ l ≤ 2305843009213693952 ∧ f ≤ l)
theorem times_f (f l : Int) (J : Bool → Option Int) : ((board_isTime.f f).bind fun t => (if t = true then ((board_isTime.f l).bind fun u => (if u = true then J (decide (f ≤ l)) else J false)) else J false)) = J (timesB f l) := by
  unfold board_isTime.f timesB
  by_cases z1 : f ≥ 0
  · by_cases z3 : f ≤ 2305843009213693952
    · by_cases z2 : l ≥ 0
      · by_cases z4 : l ≤ 2305843009213693952
        · simp [z1, z2, z3, z4, show 0 ≤ f from z1, show 0 ≤ l from z2]
        · simp [z1, z2, z3, z4]
      · simp [z1, z2, z3, show ¬ (0 ≤ l) from z2]
    · simp [z1, z3]
  · simp [z1, show ¬ (0 ≤ f) from z1]
def rowB (id : Int) (a b c : ByteArray) (n : Int) (d : ByteArray) (ta f l : Int) (ak : Bool) (y : ByteArray) : Bool :=
  !(decide (id < 1)) && (!(decide (n < 1)) && (!(decide (ta < 1)) && (!(decide (ta > 1099511627776)) && (timesB f l && ((if ak = true then whoB y else decide (y.toList = [])) && evB a b c n d)))))
theorem bcheck_ev (id : Int) (a b c : ByteArray) (n : Int) (d : ByteArray) (ta f l : Int) (ak : Bool) (y : ByteArray) (ha : a.size ≤ 1073741824) (hb : b.size ≤ 1073741824) (hc : c.size ≤ 1073741824) (hd : d.size ≤ 1073741824) (hy : y.size ≤ 1073741824) :
    Ev (fun k => board_Check.f k id a b c n d ta f l ak y) (if rowB id a b c n d ta f l ak y = true then 0 else 4) := by
  obtain ⟨K1, h1⟩ := ncheck_ev a b c n d ha hb hc hd
  obtain ⟨K2, h2⟩ := who_ev y hy
  refine ev_succ (K1 + K2) fun k hk => ?_
  unfold board_Check.f
  refine Eq.trans (times_f f l (fun T => board_Check.j0 (k + 1) T id a b c n d ta f l ak y)) ?_
  simp only [board_Check.j0, h1 k (by omega), h2 k (by omega), Option.bind_some, rowB]
  by_cases r1 : id < 1
  · cases ak <;> rcases Bool.eq_false_or_eq_true (whoB y) with p2 | p2 <;> simp [r1, p2]
  by_cases r2 : n < 1
  · cases ak <;> rcases Bool.eq_false_or_eq_true (whoB y) with p2 | p2 <;> simp [r1, r2, p2]
  by_cases r3 : ta < 1
  · cases ak <;> rcases Bool.eq_false_or_eq_true (whoB y) with p2 | p2 <;> simp [r1, r2, r3, p2]
  by_cases r4 : ta > 1099511627776
  · cases ak <;> rcases Bool.eq_false_or_eq_true (whoB y) with p2 | p2 <;> simp [r1, r2, r3, r4, p2]
  cases ak <;> rcases Bool.eq_false_or_eq_true (whoB y) with p2 | p2 <;> rcases Bool.eq_false_or_eq_true (evB a b c n d) with p1 | p1 <;> rcases Bool.eq_false_or_eq_true (timesB f l) with p4 | p4 <;> by_cases p3 : y.toList = [] <;> simp [r1, r2, r3, r4, p1, p2, p3, p4]
def tkB (q w id : Int) (a b c : ByteArray) (n : Int) (d : ByteArray) (ta f l : Int) (ak : Bool) (y : ByteArray) : Bool :=
  !(decide (q < 1)) && (!(decide (q > 1152921504606846976)) && (!(decide (w < 1)) && (!(decide (w > 5)) && rowB id a b c n d ta f l ak y)))
theorem tcheck_ev (q w id : Int) (a b c : ByteArray) (n : Int) (d : ByteArray) (ta f l : Int) (ak : Bool) (y : ByteArray) (ha : a.size ≤ 1073741824) (hb : b.size ≤ 1073741824) (hc : c.size ≤ 1073741824) (hd : d.size ≤ 1073741824) (hy : y.size ≤ 1073741824) :
    Ev (fun k => ticket_Check.f k q w id a b c n d ta f l ak y) (if tkB q w id a b c n d ta f l ak y = true then 0 else 230) := by
  obtain ⟨K1, h1⟩ := bcheck_ev id a b c n d ta f l ak y ha hb hc hd hy
  refine ⟨K1, fun k hk => ?_⟩
  simp only [ticket_Check.f, h1 k hk, Option.bind_some, tkB]
  by_cases r1 : q < 1
  · simp [r1]
  by_cases r2 : q > 1152921504606846976
  · simp [r1, r2]
  by_cases r3 : w < 1
  · simp [r1, r2, r3]
  by_cases r4 : w > 5
  · simp [r1, r2, r3, r4]
  rcases Bool.eq_false_or_eq_true (rowB id a b c n d ta f l ak y) with p1 | p1 <;> simp [r1, r2, r3, r4, p1]
end Go.Proofs.YtipenplplmdclaaDoor.Tkt
end
section
namespace Go.Proofs.YtipenplplmdclaaDoor.OctF
open Go Go.RowKit Go.Proofs.YtipenplplmdclaaDoor.Px Go.Proofs.YtipenplplmdclaaDoorW.PrintWords Go.Proofs.YtipenplplmdclaaDoor.Str
def hi (n : Nat) : List UInt8 := if n = 0 then [] else hi (n / 128) ++ [UInt8.ofNat (n % 128 + 128)]
termination_by n
decreasing_by omega
def grp (n : Nat) : List UInt8 := hi (n / 128) ++ [UInt8.ofNat (n % 128)]
theorem hi_zero : hi 0 = [] := by rw [hi]; rfl
theorem hi_pos {n : Nat} (h : n ≠ 0) : hi n = hi (n / 128) ++ [UInt8.ofNat (n % 128 + 128)] := by
  rw [hi, if_neg h]
theorem toNat_ofNat {n : Nat} (h : n < 256) : (UInt8.ofNat n).toNat = n := by rw [UInt8.toNat_ofNat']; omega
theorem go_hi (f : Nat) : ∀ (n : Nat) (acc : List Int), n < 128 ^ f → (Oct.go f (n : Int) acc).map (fun n => UInt8.ofNat n.toNat) = hi n ++ acc.map (fun n => UInt8.ofNat n.toNat) := by
  induction f with
  | zero =>
    intro n acc h
    obtain rfl : n = 0 := by simpa using h
    rw [hi_zero]
    rfl
  | succ f ih =>
    intro n acc h
    by_cases h0 : n = 0
    · subst h0
      rw [show ((0 : Nat) : Int) = 0 from rfl, Oct.go_zero, hi_zero]
      rfl
    · rw [Oct.go_pos _ _ _ (by omega), show (n : Int) / 128 = ((n / 128 : Nat) : Int) by omega, ih (n / 128) _ (by rw [Nat.pow_succ] at h; omega), hi_pos h0, List.map_cons, List.append_assoc]
      congr 1
      rw [Oct.gB_eq]
      show _ = UInt8.ofNat (n % 128 + 128) :: _
      congr 2
theorem groups_ok (n : Nat) (h : n < 9223372036854775808) : octet_Groups.f (n : Int) = some (ofL (grp n), 0) := by
  unfold octet_Groups.f
  rw [if_neg (by omega), if_pos (by omega)]
  congr 2
  apply ext
  rw [nums_L, ofL_L]
  unfold Oct.groupsI
  rw [show (n : Int) / 128 = ((n / 128 : Nat) : Int) by omega, go_hi 8 (n / 128) _ (by omega)]
  unfold grp
  congr 1
theorem hi_length (d : Nat) : ∀ n, n < 128 ^ d → (hi n).length ≤ d := by
  induction d with
  | zero => intro n h; obtain rfl : n = 0 := by simpa using h
            rw [hi_zero]; simp
  | succ d ih =>
    intro n h
    by_cases h0 : n = 0
    · subst h0; rw [hi_zero]; simp
    · rw [hi_pos h0, List.length_append]
      have := ih (n / 128) (by rw [Nat.pow_succ] at h; omega)
      simp
      omega
theorem grp_length (n : Nat) (h : n < 9223372036854775808) : 1 ≤ (grp n).length ∧ (grp n).length ≤ 9 := by
  unfold grp
  have := hi_length 8 (n / 128) (by omega)
  simp
  omega
theorem text_ok (s : ByteArray) (h : s.size ≤ 1073741824) : octet_Text.f s = some (ofL (grp s.size ++ s.data.toList)) := by
  unfold octet_Text.f
  rw [groups_ok s.size (by omega)]
  simp only [Option.bind_some]
  have := grp_length s.size (by omega)
  rw [ofL_size, if_pos (by omega)]
  congr 1
def pg (most : Int) : Nat → Nat → List UInt8 → Nat → Int × Int × Int
  | 0, _, _, _ => (0, 0, 3)
  | _ + 1, _, [], _ => (0, 0, 10)
  | f + 1, n, b :: r, i => if i = 0 ∧ b.toNat = 128 then (0, 0, 3) else if ((n * 128 + b.toNat % 128 : Nat) : Int) > most then (0, 0, 2) else if b.toNat < 128 then (((n * 128 + b.toNat % 128 : Nat) : Int), ((i + 1 : Nat) : Int), 0) else pg most f (n * 128 + b.toNat % 128) r (i + 1)
theorem andNot_u8 : ∀ b : Fin 256, Go.bits .andNot .u8 (b.val : Int) 128 = ((b.val % 128 : Nat) : Int) := by decide +kernel
theorem join7 (n b : Nat) (hn : n < 72057594037927936) (hb : b < 256) : Go.bits .or .i64 (wrap64 ((n : Int) * 128)) (wrap64 (Go.bits .andNot .u8 (b : Int) 128)) = ((n * 128 + b % 128 : Nat) : Int) := by
  have h := andNot_u8 ⟨b, hb⟩
  simp only at h
  rw [h, wrap64_id (by omega) (by omega), wrap64_id (by omega) (by omega)]
  rw [bits_join .i64 63 (by decide) (fun n h0 h1 => by rw [IntKind.wrap_i64]; omega) 7 ((n : Int) * 128) ((b % 128 : Nat) : Int) (by omega) (by omega) (by omega) (by omega) (by omega) (by omega)]
  omega
theorem groups_l0 (s : ByteArray) (most : Int) (d : Nat) : ∀ (k i n : Nat), i + d = 9 → i ≤ s.size → n < 128 ^ i → 2 * d + 1 ≤ k → octet_groups.l0 k s most (n : Int) (i : Int) = some (pg most d n (s.data.toList.drop i) i) := by
  induction d with
  | zero =>
    intro k i n hi hle hn hk
    obtain ⟨k, rfl⟩ : ∃ m, k = m + 1 := ⟨k - 1, by omega⟩
    simp only [octet_groups.l0]
    rw [if_neg (by omega)]
    rfl
  | succ d ih =>
    intro k i n hi hle hn hk
    obtain ⟨k, rfl⟩ : ∃ m, k = m + 2 := ⟨k - 2, by omega⟩
    have hn8 : n < 72057594037927936 := Nat.lt_of_lt_of_le hn (Nat.le_trans (Nat.pow_le_pow_right (by decide) (show i ≤ 8 by omega)) (by decide))
    simp only [octet_groups.l0]
    rw [if_pos (by omega)]
    by_cases he : i = s.size
    · rw [if_pos (by omega), List.drop_of_length_le (by simp; omega)]
      rfl
    · have hlt : i < s.size := by omega
      have hd : s.data.toList.drop i = s.data.toList[i]'(by simpa using hlt) :: s.data.toList.drop (i + 1) := List.drop_eq_getElem_cons (by simpa using hlt)
      have hb : bt s (i : Int) = ((s.data.toList[i]'(by simpa using hlt)).toNat : Int) := by
        rw [bt_L hlt]
        simp [List.getD, hlt]
      generalize s.data.toList[i]'(by simpa using hlt) = b at hd hb
      have hbl := b.toNat_lt
      rw [if_neg (by omega), if_pos (by omega), if_pos (by omega), hd, hb, join7 n b.toNat hn8 (by omega), wrap64_id (by omega) (by omega)]
      have hn' : n * 128 + b.toNat % 128 < 128 ^ (i + 1) := by rw [Nat.pow_succ]; omega
      have hj : ∀ q : Bool, q = decide (i = 0 ∧ b.toNat = 128) → octet_groups.j1 (k + 1) s most ((n * 128 + b.toNat % 128 : Nat) : Int) ((i : Int) + 1) (b.toNat : Int) q = some (pg most (d + 1) n (b :: s.data.toList.drop (i + 1)) i) := by
        intro q hq
        subst hq
        simp only [octet_groups.j1, pg, decide_eq_true_eq]
        by_cases c1 : i = 0 ∧ b.toNat = 128
        · rw [if_pos c1, if_pos c1]
        · rw [if_neg c1, if_neg c1]
          by_cases c2 : ((n * 128 + b.toNat % 128 : Nat) : Int) > most
          · rw [if_pos c2, if_pos c2]
          · rw [if_neg c2, if_neg c2]
            by_cases c3 : b.toNat < 128
            · rw [if_pos (by omega), if_pos c3]
              rfl
            · rw [if_neg (by omega), if_neg c3]
              exact ih k (i + 1) _ (by omega) (by omega) hn' (by omega)
      by_cases h0 : i = 0
      · rw [if_pos (by omega)]
        refine hj _ ?_
        by_cases h128 : b.toNat = 128
        · rw [decide_eq_true ⟨h0, h128⟩, h128]
          decide
        · rw [decide_eq_false (fun z => h128 z.2), beq_eq_false_iff_ne]
          omega
      · rw [if_neg (by omega)]
        exact hj _ (decide_eq_false (fun z => h0 z.1)).symm
def rdG (most : Int) (l : List UInt8) : Int × Int × Int := pg most 9 0 l 0
theorem groups_read (s : ByteArray) (most : Int) (k : Nat) (hk : 19 ≤ k) : octet_groups.f k s most = some (rdG most s.data.toList) := by
  unfold octet_groups.f
  have := groups_l0 s most 9 k 0 0 rfl (Nat.zero_le _) (by decide) (by omega)
  simpa [rdG] using this
theorem pg_long (most : Int) (f : Nat) : ∀ (n : Nat) (l : List UInt8) (i : Nat), 0 ≤ (pg most f n l i).2.1 ∧ (pg most f n l i).2.1 ≤ ((i + l.length : Nat) : Int) ∧ ((pg most f n l i).2.2 ≠ 0 → (pg most f n l i).1 = 0 ∧ (pg most f n l i).2.1 = 0) ∧ 0 ≤ (pg most f n l i).1 ∧ 0 ≤ (pg most f n l i).2.2 := by
  induction f with
  | zero => intro n l i; simp [pg]; omega
  | succ f ih =>
    intro n l i
    cases l with
    | nil => simp [pg]
    | cons b r =>
      simp only [pg]
      split
      · simp; omega
      · split
        · simp; omega
        · split
          · simp only [List.length_cons]
            refine ⟨by omega, by omega, fun h => absurd rfl h, by omega, by omega⟩
          · have := ih (n * 128 + b.toNat % 128) r (i + 1)
            simp only [List.length_cons]
            refine ⟨this.1, by omega, this.2.2.1, this.2.2.2⟩
theorem rdG_long (most : Int) (l : List UInt8) : 0 ≤ (rdG most l).2.1 ∧ (rdG most l).2.1 ≤ (l.length : Int) ∧ ((rdG most l).2.2 ≠ 0 → (rdG most l).1 = 0 ∧ (rdG most l).2.1 = 0) ∧ 0 ≤ (rdG most l).1 ∧ 0 ≤ (rdG most l).2.2 := by
  have := pg_long most 9 0 l 0
  simpa [rdG] using this
theorem rGroups (s : ByteArray) (c most : Int) (k : Nat) (hk : 19 ≤ k) :
    oR_Groups.f k s c most = some (if c = 0 then ((rdG most s.data.toList).1, ofL (s.data.toList.drop (rdG most s.data.toList).2.1.toNat), (rdG most s.data.toList).2.2) else (0, s, c)) := by
  unfold oR_Groups.f
  by_cases hc : c = 0
  · rw [if_pos hc, if_pos hc, groups_read s most k hk]
    simp only [Option.bind_some]
    unfold oR_Refuse.f
    rw [if_pos hc]
    simp only [Option.bind_some]
    have h := rdG_long most s.data.toList
    rw [if_pos h.1, if_pos (by have := h.2.1; simpa using this)]
    congr 3
    apply ext
    rw [post_L, ofL_L]
  · rw [if_neg hc, if_neg hc]
theorem rBytes (s : ByteArray) (c n : Int) : oR_Bytes.f s c n = some (if c = 0 then (if n < 0 then (⟨#[]⟩, s, 1) else if n > (s.size : Int) then (⟨#[]⟩, s, 10) else (ofL (s.data.toList.take n.toNat), ofL (s.data.toList.drop n.toNat), c)) else (⟨#[]⟩, s, c)) := by
  unfold oR_Bytes.f oR_Refuse.f
  by_cases hc : c = 0
  · simp only [if_pos hc, Option.bind_some]
    by_cases h1 : n < 0
    · rw [if_pos h1, if_pos h1]
    · rw [if_neg h1, if_neg h1]
      by_cases h2 : n > (s.size : Int)
      · rw [if_pos h2, if_pos h2]
      · rw [if_neg h2, if_neg h2, if_pos (by omega), if_pos (by omega)]
        congr 2
        · apply ext
          rw [pre_L, ofL_L]
        · congr 1
          apply ext
          rw [post_L, ofL_L]
  · rw [if_neg hc, if_neg hc]
end Go.Proofs.YtipenplplmdclaaDoor.OctF
end
section
namespace Go.Proofs.YtipenplplmdclaaDoor.OctF
open Go Go.RowKit Go.Proofs.YtipenplplmdclaaDoor.Px Go.Proofs.YtipenplplmdclaaDoorW.PrintWords Go.Proofs.YtipenplplmdclaaDoor.Str
def val (l : List UInt8) : Nat := l.foldl (fun n b => n * 256 + b.toNat) 0
theorem val_snoc (l : List UInt8) (b : UInt8) : val (l ++ [b]) = val l * 256 + b.toNat := by simp [val, List.foldl_append]
theorem snoc_ind {α : Type} {Q : List α → Prop} (h0 : Q []) (h1 : ∀ l b, Q l → Q (l ++ [b])) (l : List α) : Q l := by
  rw [← List.reverse_reverse l]
  induction l.reverse with
  | nil => exact h0
  | cons b r ih => rw [List.reverse_cons]; exact h1 _ _ ih
theorem val_lt (l : List UInt8) : val l < 256 ^ l.length := by
  refine snoc_ind (Q := fun l => val l < 256 ^ l.length) (by decide) (fun l b ih => ?_) l
  rw [val_snoc, List.length_append, List.length_singleton, Nat.pow_succ]
  have := b.toNat_lt
  omega
end Go.Proofs.YtipenplplmdclaaDoor.OctF
end
section
namespace Go.Proofs.YtipenplplmdclaaDoor.CrcB
abbrev W := BitVec 32
def poly : W := 0xEDB88320#32
def A (c : W) : W := (c >>> 1) ^^^ (if c.getLsbD 0 then poly else 0#32)
def An : Nat → W → W
  | 0, c => c
  | n + 1, c => An n (A c)
def high : W := 0x80000000#32
theorem An_add (m n : Nat) (c : W) : An (m + n) c = An m (An n c) := by
  induction n generalizing c with
  | zero => rfl
  | succ n ih => rw [← Nat.add_assoc]; show An (m + n) (A c) = _; rw [ih]; rfl
theorem A_xor (x y : W) : A (x ^^^ y) = A x ^^^ A y := by
  unfold A
  rw [BitVec.ushiftRight_xor_distrib, BitVec.getLsbD_xor]
  cases x.getLsbD 0 <;> cases y.getLsbD 0
  · simp
  · simp only [Bool.false_xor, if_true, Bool.false_eq_true, if_false, BitVec.xor_zero]
    ac_rfl
  · simp only [Bool.xor_false, if_true, Bool.false_eq_true, if_false, BitVec.xor_zero]
    ac_rfl
  · simp only [Bool.xor_self, if_true, Bool.false_eq_true, if_false, BitVec.xor_zero]
    rw [show x >>> 1 ^^^ poly ^^^ (y >>> 1 ^^^ poly) = x >>> 1 ^^^ y >>> 1 ^^^ (poly ^^^ poly) by ac_rfl, BitVec.xor_self, BitVec.xor_zero]
theorem An_xor (n : Nat) (x y : W) : An n (x ^^^ y) = An n x ^^^ An n y := by
  induction n generalizing x y with
  | zero => rfl
  | succ n ih => show An n (A _) = _; rw [A_xor, ih]; rfl
theorem A_zero {x : W} (h : A x = 0#32) : x = 0#32 := by
  have h31 : (A x).getLsbD 31 = false := by rw [h]; simp
  have hl : x.getLsbD 0 = false := by
    unfold A at h31
    rw [BitVec.getLsbD_xor] at h31
    cases hx : x.getLsbD 0 with
    | false => rfl
    | true =>
      rw [hx] at h31
      simp [poly] at h31
  unfold A at h
  rw [hl] at h
  simp at h
  apply BitVec.eq_of_getLsbD_eq
  intro i hi
  cases i with
  | zero => rw [hl]; simp
  | succ i =>
    have := congrArg (fun z => BitVec.getLsbD z i) h
    simp only [BitVec.getLsbD_ushiftRight] at this
    rw [Nat.add_comm 1 i] at this
    rw [this]
    simp
theorem An_zero {n : Nat} {x : W} (h : An n x = 0#32) : x = 0#32 := by
  induction n generalizing x with
  | zero => exact h
  | succ n ih => exact A_zero (ih h)
theorem xor_eq_zero {x y : W} (h : x ^^^ y = 0#32) : x = y := by
  have : x ^^^ y ^^^ y = 0#32 ^^^ y := by rw [h]
  rw [BitVec.xor_assoc, BitVec.xor_self, BitVec.xor_zero, BitVec.zero_xor] at this
  exact this
theorem An_inj {n : Nat} {x y : W} (h : An n x = An n y) : x = y := by
  apply xor_eq_zero
  apply An_zero (n := n)
  rw [An_xor, h, BitVec.xor_self]
theorem A_even {x : W} (h : x.getLsbD 0 = false) : A x = x >>> 1 := by unfold A; rw [h]; simp
theorem An_low (n : Nat) : ∀ x : W, (∀ i, i < n → x.getLsbD i = false) → An n x = x >>> n := by
  induction n with
  | zero => intro x _; simp [An]
  | succ n ih =>
    intro x h
    show An n (A x) = _
    rw [A_even (h 0 (by omega)), ih _ (fun i hi => by rw [BitVec.getLsbD_ushiftRight]; exact h (1 + i) (by omega)), ← BitVec.shiftRight_add]
    congr 1
    omega
theorem split_low (n : Nat) (c : W) : c = ((c >>> n) <<< n) ^^^ (c &&& BitVec.ofNat 32 (2 ^ n - 1)) := by
  apply BitVec.eq_of_getLsbD_eq
  intro i hi
  simp only [BitVec.getLsbD_xor, BitVec.getLsbD_shiftLeft, BitVec.getLsbD_ushiftRight, BitVec.getLsbD_and, BitVec.getLsbD_ofNat, Nat.testBit_two_pow_sub_one]
  by_cases h : i < n
  · simp [h, hi]
  · simp [h, hi, show n + (i - n) = i by omega]
theorem An_split (n : Nat) (c : W) : An n c = (c >>> n) ^^^ An n (c &&& BitVec.ofNat 32 (2 ^ n - 1)) := by
  have e := congrArg (An n) (split_low n c)
  rw [An_xor] at e
  rw [e]
  congr 1
  rw [An_low n _ (fun i hi => by simp [hi])]
  apply BitVec.eq_of_getLsbD_eq
  intro i hi
  simp only [BitVec.getLsbD_ushiftRight, BitVec.getLsbD_shiftLeft]
  by_cases h : n + i < 32
  · simp [h]
  · simp [h, BitVec.getLsbD_of_ge c (n + i) (by omega)]
def halfB : Nat → W := fun i => BitVec.ofNat 32 ([0, 498536548, 997073096, 651767980, 1994146192, 1802195444, 1303535960, 1342533948, 3988292384, 4027552580, 3604390888, 3412177804, 2607071920, 2262029012, 2685067896, 3183342108].getD i 0)
theorem half_An : ∀ i : Fin 16, halfB i.val = An 4 (BitVec.ofNat 32 i.val) := by decide
theorem An4 (c : W) : An 4 c = (c >>> 4) ^^^ halfB (c.toNat % 16) := by
  have h := half_An ⟨c.toNat % 16, Nat.mod_lt _ (by decide)⟩
  simp only at h
  rw [h, An_split]
  congr 2
  apply BitVec.eq_of_toNat_eq
  rw [BitVec.toNat_and, BitVec.toNat_ofNat, BitVec.toNat_ofNat]
  show c.toNat &&& (2 ^ 4 - 1) = _
  rw [Nat.and_two_pow_sub_one_eq_mod]
  omega
def step (c : W) (b : W) : W := An 8 (c ^^^ b)
def byte (b : UInt8) : W := BitVec.ofNat 32 b.toNat
def run (c : W) (l : List UInt8) : W := l.foldl (fun c b => step c (byte b)) c
theorem run_nil (c : W) : run c [] = c := rfl
theorem run_cons (c : W) (b : UInt8) (l : List UInt8) : run c (b :: l) = run (step c (byte b)) l := rfl
theorem run_append (c : W) (l m : List UInt8) : run c (l ++ m) = run (run c l) m := by simp [run, List.foldl_append]
def le4 (x : W) : List UInt8 := [UInt8.ofNat x.toNat, UInt8.ofNat (x.toNat / 256), UInt8.ofNat (x.toNat / 65536), UInt8.ofNat (x.toNat / 16777216)]
theorem byte_ofNat (n : Nat) : byte (UInt8.ofNat n) = BitVec.ofNat 32 (n % 256) := by
  unfold byte
  rw [UInt8.toNat_ofNat']
theorem run_le4 (c x : W) : run c (le4 x) = An 32 (c ^^^ x) := by
  have one : ∀ d y : W, An 8 (d ^^^ y) = step d (BitVec.ofNat 32 (y.toNat % 256)) ^^^ (y >>> 8) := by
    intro d y
    unfold step
    rw [An_split 8 (d ^^^ y), An_split 8 (d ^^^ BitVec.ofNat 32 (y.toNat % 256))]
    have e1 : (d ^^^ BitVec.ofNat 32 (y.toNat % 256)) >>> 8 = d >>> 8 := by
      apply BitVec.eq_of_getLsbD_eq
      intro i hi
      rw [BitVec.getLsbD_ushiftRight, BitVec.getLsbD_ushiftRight, BitVec.getLsbD_xor, BitVec.getLsbD_ofNat]
      have : (y.toNat % 256).testBit (8 + i) = false := Nat.testBit_lt_two_pow (Nat.lt_of_lt_of_le (Nat.mod_lt _ (by decide)) (by rw [show 256 = 2 ^ 8 by rfl]; exact Nat.pow_le_pow_right (by decide) (by omega)))
      rw [this]
      simp
    have e2 : (d ^^^ BitVec.ofNat 32 (y.toNat % 256)) &&& BitVec.ofNat 32 (2 ^ 8 - 1) = (d ^^^ y) &&& BitVec.ofNat 32 (2 ^ 8 - 1) := by
      apply BitVec.eq_of_getLsbD_eq
      intro i hi
      simp only [BitVec.getLsbD_and, BitVec.getLsbD_xor, BitVec.getLsbD_ofNat, Nat.testBit_two_pow_sub_one]
      rw [show 256 = 2 ^ 8 by rfl, Nat.testBit_mod_two_pow]
      by_cases h : i < 8
      · simp [h, hi, BitVec.getLsbD]
      · simp [h]
    rw [e1, e2, BitVec.ushiftRight_xor_distrib, BitVec.xor_assoc, BitVec.xor_assoc, BitVec.xor_comm (y >>> 8)]
  have s8 : ∀ (y : W) (k : Nat), (y >>> k).toNat = y.toNat / 2 ^ k := fun y k => by rw [BitVec.toNat_ushiftRight, Nat.shiftRight_eq_div_pow]
  have z : x >>> 8 >>> 8 >>> 8 >>> 8 = 0#32 := by
    apply BitVec.eq_of_toNat_eq
    rw [s8, s8, s8, s8]
    have := x.isLt
    simp only [BitVec.toNat_ofNat]
    omega
  unfold le4
  rw [run_cons, run_cons, run_cons, run_cons, run_nil, byte_ofNat, byte_ofNat, byte_ofNat, byte_ofNat]
  show _ = An (8 + (8 + (8 + 8))) (c ^^^ x)
  rw [An_add, An_add, An_add, one c x, one _ (x >>> 8), one _ (x >>> 8 >>> 8), one _ (x >>> 8 >>> 8 >>> 8), z, BitVec.xor_zero]
  rw [s8, s8, s8, s8, s8, s8]
  simp only [Nat.div_div_eq_div_mul]
def all : W := 0xFFFFFFFF#32
def residue : W := An 32 all
theorem tag_residue (l : List UInt8) (x : W) : run all (l ++ le4 x) = residue ↔ x = run all l ^^^ all := by
  rw [run_append, run_le4]
  constructor
  · intro h
    have e : x = run all l ^^^ (run all l ^^^ x) := by rw [← BitVec.xor_assoc, BitVec.xor_self, BitVec.zero_xor]
    rw [An_inj h] at e
    exact e
  · intro h
    rw [h, ← BitVec.xor_assoc, BitVec.xor_self, BitVec.zero_xor]
    rfl
end Go.Proofs.YtipenplplmdclaaDoor.CrcB
end
section
namespace Go.Proofs.YtipenplplmdclaaDoor.CrcB
def T : Nat → W → W → W
  | 0, _, _ => 0#32
  | n + 1, a, b => T n a b ^^^ (if a.getLsbD (31 - n) then An n b else 0#32)
open Go
def B (x : Int) : W := BitVec.ofInt 32 x
def I (b : W) : Int := (b.toNat : Int)
theorem I_range (b : W) : 0 ≤ I b ∧ I b < 4294967296 := by
  unfold I
  have := b.isLt
  omega
theorem B_I (b : W) : B (I b) = b := by
  unfold B I
  rw [BitVec.ofInt_natCast]
  simp
theorem wrapI (b : W) : IntKind.u32.wrap (b.toNat : Int) = I b := by
  rw [IntKind.wrap_u32]
  have := b.isLt
  unfold I
  omega
theorem xor_I (x y : Int) : Go.bits .xor .u32 x y = I (B x ^^^ B y) := wrapI _
theorem xor_II (a b : W) : Go.bits .xor .u32 (I a) (I b) = I (a ^^^ b) := by rw [xor_I, B_I, B_I]
theorem I_16 (c : W) : I c / (16 : Int) = I (c >>> 4) := by
  unfold I
  rw [BitVec.toNat_ushiftRight, Nat.shiftRight_eq_div_pow]
  omega
theorem I_all : (4294967295 : Int) = I all := by decide
theorem half_I : ∀ i : Fin 16, Crc.halfL.getD i.val 0 = I (halfB i.val) := by decide
theorem nib_I (c : W) : Crc.nib (I c) = I (An 4 c) := by
  unfold Crc.nib
  rw [Crc.and15, I_16]
  have h := half_I ⟨c.toNat % 16, Nat.mod_lt _ (by decide)⟩
  simp only at h
  have e : (I c % 16).toNat = c.toNat % 16 := by unfold I; omega
  rw [e, h, xor_II, An4]
theorem step_I (c : W) (b : UInt8) : Crc.stepI (I c) (b.toNat : Int) = I (step c (byte b)) := by
  unfold Crc.stepI
  have e : ((b.toNat : Nat) : Int) = I (byte b) := by
    unfold I byte
    have := b.toNat_lt
    rw [BitVec.toNat_ofNat]
    omega
  rw [e, xor_II, nib_I, nib_I, ← An_add]
  rfl
theorem behind_I (c : W) (l : List UInt8) : Crc.behindI (I c) l = I (run c l) := by
  induction l generalizing c with
  | nil => rfl
  | cons b l ih =>
    show Crc.behindI (Crc.stepI (I c) (b.toNat : Int)) l = _
    rw [step_I, ih]
    rfl
end Go.Proofs.YtipenplplmdclaaDoor.CrcB
end
section
namespace Go.Proofs.YtipenplplmdclaaDoor.CrcB
open Go Go.RowKit Go.Proofs.YtipenplplmdclaaDoor.Px Go.Proofs.YtipenplplmdclaaDoorW.PrintWords Go.Proofs.YtipenplplmdclaaDoor.Str
def sumL (l : List UInt8) : W := run all l ^^^ all
theorem behind_f (c : W) (s : ByteArray) (h : s.size ≤ 140737488355328) : crc_behind.f (I c) s = some (I (run c s.data.toList)) := by
  unfold crc_behind.f
  rw [if_pos h, behind_I]
theorem sum_f (s : ByteArray) (h : s.size ≤ 140737488355328) : crc_Sum.f s = some (I (sumL s.data.toList)) := by
  unfold crc_Sum.f
  rw [I_all, behind_f _ _ h]
  simp only [Option.bind_some]
  rw [xor_II, BitVec.xor_comm]
  have := I_range (run all s.data.toList ^^^ all)
  rw [wrap64_id (by omega) (by omega)]
  rfl
def tagL (l : List UInt8) : List UInt8 := l ++ le4 (sumL l)
theorem le_I (c : W) : (crc_Tag.le 4 (I c)).map (fun n => UInt8.ofNat n.toNat) = le4 c := by
  simp only [crc_Tag.le, List.range, List.range.loop, List.map_cons, List.map_nil, crc_Tag.sh, le4, I]
  have h := c.isLt
  have e : ∀ (x : Int) (n : Nat), x = ((n % 256 : Nat) : Int) → UInt8.ofNat x.toNat = UInt8.ofNat n := fun x n hx => by
    apply UInt8.toNat_inj.1
    rw [hx, UInt8.toNat_ofNat', UInt8.toNat_ofNat', Int.toNat_natCast]
    omega
  rw [e _ c.toNat (by omega), e _ (c.toNat / 256) (by omega), e _ (c.toNat / 65536) (by omega), e _ (c.toNat / 16777216) (by omega)]
theorem tag_f (s : ByteArray) (h : s.size ≤ 1073741824) : crc_Tag.f s = some (ofL (tagL s.data.toList)) := by
  unfold crc_Tag.f
  rw [if_pos h, sum_f _ (by omega)]
  simp only [Option.bind_some, Option.some.injEq]
  apply ext
  rw [nums_L, List.map_append, le_I, ofL_L]
  unfold BR.ints
  rw [map_u8]
  rfl
theorem tagL_length (l : List UInt8) : (tagL l).length = l.length + 4 := by simp [tagL, le4]
theorem le4_inj {x y : W} (h : le4 x = le4 y) : x = y := by
  have h1 := run_le4 0#32 x
  rw [h, run_le4, BitVec.zero_xor, BitVec.zero_xor] at h1
  exact (An_inj h1).symm
theorem le4_all : ∀ l : List UInt8, l.length = 4 → ∃ x : W, l = le4 x := by
  intro l hl
  match l, hl with
  | [a, b, c, d], _ =>
    have ha := a.toNat_lt
    have hb := b.toNat_lt
    have hc := c.toNat_lt
    have hd := d.toNat_lt
    refine ⟨BitVec.ofNat 32 (a.toNat + 256 * b.toNat + 65536 * c.toNat + 16777216 * d.toNat), ?_⟩
    unfold le4
    rw [BitVec.toNat_ofNat]
    have e : ∀ (u : UInt8) (n : Nat), n % 256 = u.toNat → u = UInt8.ofNat n := fun u n h => by
      apply UInt8.toNat_inj.1
      rw [UInt8.toNat_ofNat', ← h]
    rw [← e a _ (by omega), ← e b _ (by omega), ← e c _ (by omega), ← e d _ (by omega)]
theorem owns_iff (l : List UInt8) (h : 4 ≤ l.length) : tagL (l.take (l.length - 4)) = l ↔ run all l = residue := by
  obtain ⟨x, hx⟩ := le4_all (l.drop (l.length - 4)) (by simp; omega)
  have hl : l = l.take (l.length - 4) ++ le4 x := by rw [← hx, List.take_append_drop]
  generalize l.take (l.length - 4) = m at hl
  subst hl
  rw [tag_residue]
  unfold tagL sumL
  constructor
  · intro h
    exact (le4_inj (List.append_cancel_left h)).symm
  · intro h
    rw [h]
theorem open_f (s : ByteArray) (h : s.size ≤ 1073741824) :
    crc_Open.f s = some (if 4 ≤ s.size ∧ run all s.data.toList = residue then (s.extract 0 (s.size - 4), true) else (⟨#[]⟩, false)) := by
  unfold crc_Open.f
  by_cases h4 : 4 ≤ s.size
  · rw [if_neg (by omega), wrap64_id (by omega) (by omega), if_pos (by omega), if_pos (by omega)]
    have e : ((s.size : Int) - 4).toNat = s.size - 4 := by omega
    rw [e, tag_f _ (by rw [size_L, pre_L, List.length_take]; omega)]
    simp only [Option.bind_some]
    have hk := owns_iff s.data.toList (by simpa using h4)
    rw [toList_L, toList_L, ofL_L, pre_L, show s.size = s.data.toList.length from size_L s]
    by_cases hr : run all s.data.toList = residue
    · rw [if_pos (hk.2 hr), if_pos ⟨by simpa using h4, hr⟩]
    · rw [if_neg (fun z => hr (hk.1 z)), if_neg (fun z => hr z.2)]
  · rw [if_pos (by omega), if_neg (fun z => h4 z.1)]
theorem run_tagL (l : List UInt8) : run all (tagL l) = residue := by
  unfold tagL
  rw [tag_residue]
  rfl
end Go.Proofs.YtipenplplmdclaaDoor.CrcB
end
section
namespace Go.Proofs.YtipenplplmdclaaDoor.Tkt
open Go Go.RowKit Go.Proofs.YtipenplplmdclaaDoor.Px Go.Proofs.YtipenplplmdclaaDoorW.PrintWords Go.Proofs.YtipenplplmdclaaDoor.Str Go.Proofs.YtipenplplmdclaaDoor.OctF Go.Proofs.YtipenplplmdclaaDoor.CrcB
set_option linter.unusedSimpArgs false
set_option linter.unusedVariables false
theorem ofL_app (x y : List UInt8) : ofL x ++ ofL y = ofL (x ++ y) := ext (by rw [app_L, ofL_L, ofL_L, ofL_L])
def gi (n : Int) : List UInt8 := grp n.toNat
theorem gi_len {n : Int} (h0 : 0 ≤ n) (h1 : n < 9223372036854775808) : (gi n).length ≤ 9 := (grp_length n.toNat (by omega)).2
theorem groups_int {n : Int} (h0 : 0 ≤ n) (h1 : n < 9223372036854775808) : octet_Groups.f n = some (ofL (gi n), 0) := by
  have := groups_ok n.toNat (by omega)
  rwa [Int.toNat_of_nonneg h0] at this
def txt (s : ByteArray) : List UInt8 := grp s.size ++ s.data.toList
theorem txt_len {s : ByteArray} (h : s.size ≤ 100000) : (txt s).length ≤ 100009 := by
  have := (grp_length s.size (by omega)).2
  have e : s.data.toList.length = s.size := by simp
  rw [txt, List.length_append, e]
  omega
theorem tgroups_l0 (l : List Int) (hl : l.length ≤ 1000000) (hx : ∀ x ∈ l, 0 ≤ x ∧ x < 9223372036854775808) (d : Nat) : ∀ (i : Nat) (acc : List UInt8), i + d = l.length → acc.length + 9 * d ≤ 100000000 → Ev (fun k => ticket_groups.l0 k (ofL acc) l (l.length : Int) (i : Int)) (ofL (acc ++ (l.drop i).flatMap gi)) := by
  induction d with
  | zero =>
    intro i acc hi _
    refine ev_succ 0 fun k _ => ?_
    simp only [ticket_groups.l0]
    rw [if_neg (by omega), List.drop_eq_nil_of_le (by omega)]
    simp
  | succ d ih =>
    intro i acc hi ha
    have hm : l.getD i 0 ∈ l := by rw [List.getD_eq_getElem?_getD, List.getElem?_eq_getElem (by omega), Option.getD_some]; exact List.getElem_mem _
    obtain ⟨h0, h1⟩ := hx _ hm
    have hg := gi_len h0 h1
    obtain ⟨K, hK⟩ := ih (i + 1) (acc ++ gi (l.getD i 0)) (by omega) (by rw [List.length_append]; omega)
    refine ev_succ K fun k hk => ?_
    simp only [ticket_groups.l0]
    have hrd : rd l (i : Int) = l.getD i 0 := by simp [rd]
    rw [if_pos (by omega), if_pos (by omega), if_pos (by omega), hrd, groups_int h0 h1, Option.bind_some]
    simp only [ofL_size]
    rw [if_pos (by omega), ofL_app, wrap64_id (by omega) (by omega)]
    have hd : l.drop i = l.getD i 0 :: l.drop (i + 1) := by rw [List.drop_eq_getElem_cons (by omega), List.getD_eq_getElem?_getD, List.getElem?_eq_getElem (by omega), Option.getD_some]
    rw [hd, List.flatMap_cons, ← List.append_assoc]
    exact hK k hk
theorem tgroups_ev (l : List Int) (hl : l.length ≤ 1000000) (hx : ∀ x ∈ l, 0 ≤ x ∧ x < 9223372036854775808) : Ev (fun k => ticket_groups.f k l) (ofL (l.flatMap gi)) := by
  have := tgroups_l0 l hl hx l.length 0 [] (by omega) (by simp; omega)
  simp only [List.nil_append, List.drop_zero] at this
  exact this
theorem otext {s : ByteArray} (h : s.size ≤ 100000) : octet_Text.f s = some (ofL (txt s)) := text_ok s (by omega)
def evL (a b c : ByteArray) (n : Int) (d : ByteArray) : List UInt8 := txt a ++ (txt b ++ (txt c ++ (txt d ++ gi n)))
theorem evB_n {a b c : ByteArray} {n : Int} {d : ByteArray} (h : evB a b c n d = true) : 0 ≤ n ∧ n ≤ 5 := by
  simp only [evB, Bool.and_eq_true, decide_eq_true_eq] at h
  exact h.2.2.2.2.2.2
theorem evL_len {a b c : ByteArray} {n : Int} {d : ByteArray} (ha : a.size ≤ 100000) (hb : b.size ≤ 100000) (hc : c.size ≤ 100000) (hd : d.size ≤ 100000) (h0 : 0 ≤ n) (h1 : n < 9223372036854775808) : (evL a b c n d).length ≤ 400045 := by
  have l1 := txt_len ha
  have l2 := txt_len hb
  have l3 := txt_len hc
  have l4 := txt_len hd
  have l5 := gi_len h0 h1
  simp only [evL, List.length_append]
  omega
theorem nenc_ev (a b c : ByteArray) (n : Int) (d : ByteArray) (ha : a.size ≤ 100000) (hb : b.size ≤ 100000) (hc : c.size ≤ 100000) (hd : d.size ≤ 100000) :
    Ev (fun k => norm_Encode.f k a b c n d) (if evB a b c n d = true then (ofL (evL a b c n d), 0) else (⟨#[]⟩, 180)) := by
  obtain ⟨K, h⟩ := ncheck_ev a b c n d (by omega) (by omega) (by omega) (by omega)
  refine ⟨K, fun k hk => ?_⟩
  simp only [norm_Encode.f, h k hk, Option.bind_some]
  rcases Bool.eq_false_or_eq_true (evB a b c n d) with p | p
  · have hn := evB_n p
    have l1 := txt_len ha
    have l2 := txt_len hb
    have l3 := txt_len hc
    have l4 := txt_len hd
    have l5 := gi_len hn.1 (by omega)
    simp only [p, if_true, groups_int hn.1 (by omega), otext ha, otext hb, otext hc, otext hd, Option.bind_some, ofL_app, ofL_size, List.length_append]
    rw [if_pos (by omega), if_pos (by omega), if_pos (by omega), if_pos (by omega)]
    simp only [evL, List.append_assoc]
  · simp [p]
def akL (ak : Bool) : List UInt8 := if ak = true then [1] else [0]
def rowL (id : Int) (a b c : ByteArray) (n : Int) (d : ByteArray) (ta f l : Int) (ak : Bool) (y : ByteArray) : List UInt8 := gi id ++ (gi ta ++ (gi f ++ (gi l ++ (akL ak ++ (txt y ++ evL a b c n d)))))
def payL (w id : Int) (a b c : ByteArray) (n : Int) (d : ByteArray) (ta f l : Int) (ak : Bool) (y : ByteArray) : List UInt8 := UInt8.ofNat w.toNat :: rowL id a b c n d ta f l ak y
theorem num_w {w : Int} (h0 : 0 ≤ w) (h1 : w < 256) : strOfNums ([w % 256] : List Int) = ofL [UInt8.ofNat w.toNat] := by
  apply ext
  rw [nums_L, ofL_L, Int.emod_eq_of_lt h0 h1]
  rfl
theorem num_0 : strOfNums ([0] : List Int) = ofL [0] := ext (by rw [nums_L, ofL_L]; rfl)
theorem num_1 : strOfNums ([1] : List Int) = ofL [1] := ext (by rw [nums_L, ofL_L]; rfl)
theorem timesB_iff {f l : Int} : timesB f l = true ↔ 0 ≤ f ∧ f ≤ 2305843009213693952 ∧ 0 ≤ l ∧ l ≤ 2305843009213693952 ∧ f ≤ l := by unfold timesB; exact decide_eq_true_iff
theorem rowB_iff {id : Int} {a b c : ByteArray} {n : Int} {d : ByteArray} {ta f l : Int} {ak : Bool} {y : ByteArray} : rowB id a b c n d ta f l ak y = true ↔
    1 ≤ id ∧ 1 ≤ n ∧ 1 ≤ ta ∧ ta ≤ 1099511627776 ∧ timesB f l = true ∧ (if ak = true then whoB y else decide (y.toList = [])) = true ∧ evB a b c n d = true := by
  unfold rowB
  simp only [Bool.and_eq_true, Bool.not_eq_true', decide_eq_false_iff_not, Int.not_lt, gt_iff_lt]
theorem tkB_iff {q w id : Int} {a b c : ByteArray} {n : Int} {d : ByteArray} {ta f l : Int} {ak : Bool} {y : ByteArray} : tkB q w id a b c n d ta f l ak y = true ↔
    1 ≤ q ∧ q ≤ 1152921504606846976 ∧ 1 ≤ w ∧ w ≤ 5 ∧ rowB id a b c n d ta f l ak y = true := by
  unfold tkB
  simp only [Bool.and_eq_true, Bool.not_eq_true', decide_eq_false_iff_not, Int.not_lt, gt_iff_lt]
theorem akL_len (ak : Bool) : (akL ak).length = 1 := by cases ak <;> rfl
theorem rowL_len {id : Int} {a b c : ByteArray} {n : Int} {d : ByteArray} {ta f l : Int} {ak : Bool} {y : ByteArray} (ha : a.size ≤ 100000) (hb : b.size ≤ 100000) (hc : c.size ≤ 100000) (hd : d.size ≤ 100000) (hy : y.size ≤ 100000)
    (hid : id < 9223372036854775808) (h : rowB id a b c n d ta f l ak y = true) : (rowL id a b c n d ta f l ak y).length ≤ 600000 := by
  obtain ⟨r1, r2, r3, r4, r5, r6, r7⟩ := rowB_iff.1 h
  obtain ⟨t1, t2, t3, t4, t5⟩ := timesB_iff.1 r5
  have hn := evB_n r7
  have l1 := evL_len ha hb hc hd hn.1 (show n < 9223372036854775808 by omega)
  have l2 := txt_len hy
  have l3 := gi_len (show 0 ≤ id by omega) hid
  have l4 := gi_len (show 0 ≤ ta by omega) (by omega)
  have l5 := gi_len t1 (by omega)
  have l6 := gi_len t3 (by omega)
  simp only [rowL, List.length_append, akL_len]
  omega
theorem flat4 (a b c d : Int) : [a, b, c, d].flatMap gi = gi a ++ (gi b ++ (gi c ++ gi d)) := by simp
theorem flat1 (a : Int) : [a].flatMap gi = gi a := by simp
theorem tpay_ev (q w id : Int) (a b c : ByteArray) (n : Int) (d : ByteArray) (ta f l : Int) (ak : Bool) (y : ByteArray) (ha : a.size ≤ 100000) (hb : b.size ≤ 100000) (hc : c.size ≤ 100000) (hd : d.size ≤ 100000) (hy : y.size ≤ 100000) (hid : id < 9223372036854775808) :
    Ev (fun k => ticket_Payload.f k q w id a b c n d ta f l ak y) (if tkB q w id a b c n d ta f l ak y = true then (ofL (payL w id a b c n d ta f l ak y), 0) else (⟨#[]⟩, 230)) := by
  obtain ⟨K1, h1⟩ := tcheck_ev q w id a b c n d ta f l ak y (by omega) (by omega) (by omega) (by omega) (by omega)
  rcases Bool.eq_false_or_eq_true (tkB q w id a b c n d ta f l ak y) with p | p
  · obtain ⟨q1, q2, q3, q4, hr⟩ := tkB_iff.1 p
    obtain ⟨r1, r2, r3, r4, r5, r6, r7⟩ := rowB_iff.1 hr
    obtain ⟨t1, t2, t3, t4, t5⟩ := timesB_iff.1 r5
    have hn := evB_n r7
    obtain ⟨K2, h2⟩ := nenc_ev a b c n d ha hb hc hd
    obtain ⟨K3, h3⟩ := tgroups_ev [id, ta, f, l] (by simp) (by intro x hx; simp only [List.mem_cons, List.not_mem_nil, or_false] at hx; rcases hx with rfl | rfl | rfl | rfl <;> omega)
    refine ⟨K1 + K2 + K3, fun k hk => ?_⟩
    have l1 := evL_len ha hb hc hd hn.1 (show n < 9223372036854775808 by omega)
    have l2 := txt_len hy
    have l3 := gi_len (show 0 ≤ id by omega) hid
    have l4 := gi_len (show 0 ≤ ta by omega) (show ta < 9223372036854775808 by omega)
    have l5 := gi_len t1 (show f < 9223372036854775808 by omega)
    have l6 := gi_len t3 (show l < 9223372036854775808 by omega)
    cases ak
    · simp only [ticket_Payload.f, h1 k (by omega), h2 k (by omega), h3 k (by omega), flat4, otext hy, p, r7, Option.bind_some, if_true, if_false, num_w (show 0 ≤ w by omega) (show w < 256 by omega), num_0, Bool.false_eq_true, ofL_app, ofL_size, List.length_append, List.length_cons, List.length_nil]
      rw [if_pos (by omega), if_pos (by omega), if_pos (by omega), if_pos (by omega)]
      simp only [payL, rowL, akL, Bool.false_eq_true, if_false, List.append_assoc, List.cons_append, List.nil_append]
    · simp only [ticket_Payload.f, h1 k (by omega), h2 k (by omega), h3 k (by omega), flat4, otext hy, p, r7, Option.bind_some, if_true, if_false, num_w (show 0 ≤ w by omega) (show w < 256 by omega), num_1, ofL_app, ofL_size, List.length_append, List.length_cons, List.length_nil]
      rw [if_pos (by omega), if_pos (by omega), if_pos (by omega), if_pos (by omega)]
      simp only [payL, rowL, akL, if_true, List.append_assoc, List.cons_append, List.nil_append]
  · refine ⟨K1, fun k hk => ?_⟩
    simp [ticket_Payload.f, h1 k hk, p]
def msgL (q w id : Int) (a b c : ByteArray) (n : Int) (d : ByteArray) (ta f l : Int) (ak : Bool) (y : ByteArray) : List UInt8 := 71 :: (gi q ++ payL w id a b c n d ta f l ak y)
theorem payL_len {w id : Int} {a b c : ByteArray} {n : Int} {d : ByteArray} {ta f l : Int} {ak : Bool} {y : ByteArray} (ha : a.size ≤ 100000) (hb : b.size ≤ 100000) (hc : c.size ≤ 100000) (hd : d.size ≤ 100000) (hy : y.size ≤ 100000)
    (hid : id < 9223372036854775808) (h : rowB id a b c n d ta f l ak y = true) : (payL w id a b c n d ta f l ak y).length ≤ 600001 := by
  have := rowL_len ha hb hc hd hy hid h
  simp only [payL, List.length_cons]
  omega
theorem g71 : (⟨#[71]⟩ : ByteArray) = ofL [71] := rfl
theorem tenc_ev (q w id : Int) (a b c : ByteArray) (n : Int) (d : ByteArray) (ta f l : Int) (ak : Bool) (y : ByteArray) (ha : a.size ≤ 100000) (hb : b.size ≤ 100000) (hc : c.size ≤ 100000) (hd : d.size ≤ 100000) (hy : y.size ≤ 100000) (hid : id < 9223372036854775808) :
    Ev (fun k => ticket_Encode.f k q w id a b c n d ta f l ak y) (if tkB q w id a b c n d ta f l ak y = true then (ofL (tagL (msgL q w id a b c n d ta f l ak y)), 0) else (⟨#[]⟩, 230)) := by
  obtain ⟨K1, h1⟩ := tpay_ev q w id a b c n d ta f l ak y ha hb hc hd hy hid
  rcases Bool.eq_false_or_eq_true (tkB q w id a b c n d ta f l ak y) with p | p
  · obtain ⟨q1, q2, q3, q4, hr⟩ := tkB_iff.1 p
    obtain ⟨K2, h2⟩ := tgroups_ev [q] (by simp) (by intro x hx; simp only [List.mem_cons, List.not_mem_nil, or_false] at hx; subst hx; omega)
    refine ⟨K1 + K2, fun k hk => ?_⟩
    have l1 := payL_len (w := w) ha hb hc hd hy hid hr
    have l2 := gi_len (show 0 ≤ q by omega) (by omega)
    simp only [ticket_Encode.f, h1 k (by omega), h2 k (by omega), flat1, p, Option.bind_some, if_true, g71, ofL_app, ofL_size, List.length_append, List.length_cons, List.length_nil]
    rw [if_pos (by omega), if_pos (by omega), tag_f _ (by rw [ofL_size]; simp only [List.length_append, List.length_cons, List.length_nil]; omega), Option.bind_some, ofL_L]
    simp only [msgL, List.append_assoc, List.cons_append, List.nil_append]
  · refine ⟨K1, fun k hk => ?_⟩
    simp [ticket_Encode.f, h1 k hk, p]
def ackB (n : Int) : Bool := decide (1 ≤ n ∧ n ≤ 1152921504606846976)
def ackL (n : Int) : List UInt8 := 65 :: gi n
theorem g65 : (⟨#[65]⟩ : ByteArray) = ofL [65] := rfl
theorem tack_ev (n : Int) : Ev (fun k => ticket_Ack.f k n) (if ackB n = true then (ofL (tagL (ackL n)), 0) else (⟨#[]⟩, 230)) := by
  by_cases r1 : n < 1
  · refine ev_succ 0 fun k _ => ?_
    rw [show ackB n = false from decide_eq_false (by omega)]
    simp [ticket_Ack.f, ticket_Ack.j0, r1]
  by_cases r2 : n > 1152921504606846976
  · refine ev_succ 0 fun k _ => ?_
    rw [show ackB n = false from decide_eq_false (by omega)]
    simp [ticket_Ack.f, ticket_Ack.j0, r1, r2]
  · obtain ⟨K2, h2⟩ := tgroups_ev [n] (by simp) (by intro x hx; simp only [List.mem_cons, List.not_mem_nil, or_false] at hx; subst hx; omega)
    refine ev_succ K2 fun k hk => ?_
    have l2 := gi_len (show 0 ≤ n by omega) (by omega)
    rw [show ackB n = true from decide_eq_true (by omega)]
    simp only [ticket_Ack.f, ticket_Ack.j0, r1, r2, decide_false, Bool.false_eq_true, if_false, if_true, h2 k hk, flat1, Option.bind_some, g65, ofL_app, ofL_size]
    rw [if_pos (by omega), tag_f _ (by rw [ofL_size]; simp only [List.length_append, List.length_cons, List.length_nil]; omega), Option.bind_some, ofL_L]
    rfl
end Go.Proofs.YtipenplplmdclaaDoor.Tkt
end
section
namespace Go.Proofs.YtipenplplmdclaaDoor.OctF
open Go Go.Proofs.YtipenplplmdclaaDoor.Str
theorem pg_hi (most : Int) (q : Nat) : ∀ acc : List UInt8, (q : Int) ≤ most → q < 72057594037927936 → pg most 9 0 (hi q ++ acc) 0 = pg most (9 - (hi q).length) q acc (hi q).length := by
  induction q using Nat.strongRecOn with
  | _ q ih =>
    intro acc hm hq
    by_cases h0 : q = 0
    · subst h0
      rw [hi_zero]
      rfl
    · have hl : (hi (q / 128)).length ≤ 7 := hi_length 7 _ (by omega)
      rw [hi_pos h0, List.append_assoc, ih (q / 128) (by omega) _ (by omega) (by omega)]
      generalize hL : (hi (q / 128)).length = L at hl
      obtain ⟨f, hf⟩ : ∃ f, 9 - L = f + 1 := ⟨8 - L, by omega⟩
      have hb : (UInt8.ofNat (q % 128 + 128)).toNat = q % 128 + 128 := toNat_ofNat (by omega)
      have hz : ¬ (L = 0 ∧ q % 128 + 128 = 128) := by
        rintro ⟨z1, z2⟩
        have hq0 : q / 128 = 0 := by
          rcases Nat.eq_zero_or_pos (q / 128) with h | h
          · exact h
          · rw [hi_pos (by omega), List.length_append] at hL
            simp at hL
            omega
        omega
      rw [hf]
      simp only [List.cons_append, List.nil_append, pg, hb]
      rw [if_neg hz, show q / 128 * 128 + (q % 128 + 128) % 128 = q by omega, if_neg (by omega), if_neg (by omega), List.length_append, hL]
      simp only [List.length_cons, List.length_nil, Nat.zero_add]
      congr 1
      omega
theorem rdG_grp (most : Int) (n : Nat) (r : List UInt8) (hm : (n : Int) ≤ most) (hn : n < 9223372036854775808) : rdG most (grp n ++ r) = ((n : Int), ((grp n).length : Int), 0) := by
  have hl : (hi (n / 128)).length ≤ 8 := hi_length 8 _ (by omega)
  unfold rdG grp
  rw [List.append_assoc, pg_hi most (n / 128) _ (by omega) (by omega)]
  generalize hL : (hi (n / 128)).length = L at hl ⊢
  have hb : (UInt8.ofNat (n % 128)).toNat = n % 128 := toNat_ofNat (by omega)
  obtain ⟨f, hf⟩ : ∃ f, 9 - L = f + 1 := ⟨8 - L, by omega⟩
  rw [hf]
  simp only [List.cons_append, List.nil_append, pg, hb, List.length_append, List.length_cons, List.length_nil]
  rw [if_neg (by omega), show n / 128 * 128 + n % 128 % 128 = n by omega, if_neg (by omega), if_pos (by omega), hL]
end Go.Proofs.YtipenplplmdclaaDoor.OctF
end
section
namespace Go.Proofs.YtipenplplmdclaaDoor.OctF
open Go Go.RowKit Go.Proofs.YtipenplplmdclaaDoor.Px Go.Proofs.YtipenplplmdclaaDoorW.PrintWords Go.Proofs.YtipenplplmdclaaDoor.Str
theorem join8 (n b : Nat) (hn : n < 72057594037927936) (hb : b < 256) : Go.bits .or .u64 (IntKind.u64.wrap ((n : Int) * 256)) (b : Int) = ((n * 256 + b : Nat) : Int) := by
  have hw : IntKind.u64.wrap ((n : Int) * 256) = (n : Int) * 256 := by rw [IntKind.wrap_u64]; omega
  rw [hw, bits_join .u64 64 (by decide) (fun n h0 h1 => by rw [IntKind.wrap_u64]; omega) 8 ((n : Int) * 256) (b : Int) (by omega) (by omega) (by omega) (by omega) (by omega) (by omega)]
  omega
theorem wideU_val (l : List UInt8) (h : l.length ≤ 8) : Oct.wideU (l.map fun b => (b.toNat : Int)) = (val l : Int) := by
  have key : ∀ l : List UInt8, l.length ≤ 8 → Oct.wideU (l.map fun b => (b.toNat : Int)) = (val l : Int) := fun l => by
    refine snoc_ind (Q := fun l => l.length ≤ 8 → Oct.wideU (l.map fun b => (b.toNat : Int)) = (val l : Int)) (fun _ => rfl) (fun l b ih h => ?_) l
    rw [List.length_append, List.length_singleton] at h
    have h1 := ih (by omega)
    have hv := val_lt l
    have h7 : (256 : Nat) ^ l.length ≤ 72057594037927936 := Nat.le_trans (Nat.pow_le_pow_right (by decide) (show l.length ≤ 7 by omega)) (by decide)
    unfold Oct.wideU at h1 ⊢
    rw [List.map_append, List.foldl_append, h1, val_snoc]
    exact join8 (val l) b.toNat (by omega) (by have := b.toNat_lt; omega)
  exact key l h
theorem rWide (s : ByteArray) (c w : Int) : oR_Wide.f s c w = some (if c = 0 then (if w < 1 ∨ 8 < w then (0, s, 1) else if w > (s.size : Int) then (0, s, 10) else if val (s.data.toList.take w.toNat) < 9223372036854775808 then ((val (s.data.toList.take w.toNat) : Int), ofL (s.data.toList.drop w.toNat), 0) else (0, s, 1)) else (0, s, c)) := by
  have h0 : (⟨#[]⟩ : ByteArray).size ≤ 8 := by decide
  have h0' : Oct.wideU (BR.ints ⟨#[]⟩) < 9223372036854775808 := by decide
  have h0v : Oct.wideU (BR.ints ⟨#[]⟩) = 0 := by decide
  unfold oR_Wide.f
  by_cases hc : c = 0
  · subst hc
    by_cases hw : w < 1 ∨ 8 < w
    · simp only [if_pos hw, if_true, oR_Refuse.f, Option.bind_some, rBytes, show ¬ (1 : Int) = 0 by decide, if_false]
      simp [h0, h0v]
    · simp only [if_neg hw, if_true, Option.bind_some, rBytes]
      simp only [if_neg (show ¬ w < 0 by omega)]
      by_cases hg : w > (s.size : Int)
      · simp only [if_pos hg]
        simp [h0, h0v]
      · simp only [if_neg hg]
        have hl : (s.data.toList.take w.toNat).length = w.toNat := by rw [List.length_take]; simp; omega
        have hs8 : (ofL (s.data.toList.take w.toNat)).size ≤ 8 := by rw [ofL_size, hl]; omega
        have hv : Oct.wideU (BR.ints (ofL (s.data.toList.take w.toNat))) = (val (s.data.toList.take w.toNat) : Int) := wideU_val (s.data.toList.take w.toNat) (by rw [hl]; omega)
        simp only [if_pos hs8, hv]
        by_cases hb : val (s.data.toList.take w.toNat) < 9223372036854775808
        · simp only [if_pos hb, if_pos (show (val (s.data.toList.take w.toNat) : Int) < 9223372036854775808 by omega)]
        · simp only [if_neg hb, if_neg (show ¬ (val (s.data.toList.take w.toNat) : Int) < 9223372036854775808 by omega)]
          simp [oR_Refuse.f]
  · have e : (if w < 1 ∨ 8 < w then oR_Refuse.f s c 1 else some (s, c)) = some (s, c) := by
      unfold oR_Refuse.f
      rw [if_neg hc]
      split <;> rfl
    rw [e]
    simp only [Option.bind_some, rBytes, if_neg hc]
    simp [h0, h0v]
theorem rText (s : ByteArray) (c most : Int) : oR_Text.f s c most = some (if c = 0 then (if (rdG most s.data.toList).2.2 = 0 then (if (rdG most s.data.toList).1 > ((s.data.toList.drop (rdG most s.data.toList).2.1.toNat).length : Int) then (⟨#[]⟩, s, 10) else (ofL ((s.data.toList.drop (rdG most s.data.toList).2.1.toNat).take (rdG most s.data.toList).1.toNat), ofL ((s.data.toList.drop (rdG most s.data.toList).2.1.toNat).drop (rdG most s.data.toList).1.toNat), 0)) else (⟨#[]⟩, s, (rdG most s.data.toList).2.2)) else (⟨#[]⟩, s, c)) := by
  unfold oR_Text.f
  rw [rGroups s c most 40 (by decide)]
  simp only [Option.bind_some]
  obtain ⟨_, _, _, h4, _⟩ := rdG_long most s.data.toList
  by_cases hc : c = 0
  · simp only [if_pos hc]
    by_cases he : (rdG most s.data.toList).2.2 = 0
    · simp only [he, rBytes, if_true]
      rw [if_neg (by omega), ofL_size]
      by_cases hg : (rdG most s.data.toList).1 > ((s.data.toList.drop (rdG most s.data.toList).2.1.toNat).length : Int)
      · rw [if_pos hg, if_pos hg]
        rfl
      · rw [if_neg hg, if_neg hg]
        simp only [Option.bind_some, if_true, ofL_L]
    · simp only [if_neg he, rBytes, Option.bind_some]
  · simp only [if_neg hc, rBytes, Option.bind_some]
end Go.Proofs.YtipenplplmdclaaDoor.OctF
end
section
namespace Go.Proofs.YtipenplplmdclaaDoor.OctF
open Go Go.RowKit Go.Proofs.YtipenplplmdclaaDoor.Px Go.Proofs.YtipenplplmdclaaDoorW.PrintWords Go.Proofs.YtipenplplmdclaaDoor.Str
def Rel (S s : ByteArray) (A : Nat) : Prop := A ≤ S.size ∧ s = ofL (S.data.toList.drop A)
theorem Rel.size {S s : ByteArray} {A : Nat} (h : Rel S s A) : s.size = S.size - A := by rw [h.2, ofL_size, List.length_drop, ← size_L]
theorem Rel.list {S s : ByteArray} {A : Nat} (h : Rel S s A) : s.data.toList = S.data.toList.drop A := by rw [h.2, ofL_L]
theorem Rel.step {S s : ByteArray} {A : Nat} (h : Rel S s A) (j : Nat) (hj : A + j ≤ S.size) : Rel S (ofL (s.data.toList.drop j)) (A + j) := ⟨hj, by rw [h.list, List.drop_drop]⟩
end Go.Proofs.YtipenplplmdclaaDoor.OctF
end
section
namespace Go.Proofs.YtipenplplmdclaaDoor.Tkt
open Go Go.RowKit Go.Proofs.YtipenplplmdclaaDoor.Px Go.Proofs.YtipenplplmdclaaDoorW.PrintWords Go.Proofs.YtipenplplmdclaaDoor.Str Go.Proofs.YtipenplplmdclaaDoor.OctF
set_option linter.unusedSimpArgs false
set_option linter.unusedVariables false
theorem oGf {m most : Int} (h0 : 0 ≤ m) (hm : m ≤ most) (h1 : m < 9223372036854775808) (r : List UInt8) {k : Nat} (hk : 19 ≤ k) : oR_Groups.f k (ofL (gi m ++ r)) 0 most = some (m, ofL r, 0) := by
  rw [rGroups _ 0 most k hk, if_pos rfl, ofL_L]
  have := rdG_grp most m.toNat r (by omega) (by omega)
  rw [show gi m = grp m.toNat from rfl, this]
  simp only [Int.toNat_natCast, List.drop_left']
  rw [Int.toNat_of_nonneg h0]
theorem oWf (b : UInt8) (r : List UInt8) : oR_Wide.f (ofL (b :: r)) 0 1 = some ((b.toNat : Int), ofL r, 0) := by
  rw [rWide, if_pos rfl, if_neg (by omega), ofL_L, if_neg (by rw [ofL_size, List.length_cons]; omega)]
  have hv : val ((b :: r).take (1 : Int).toNat) = b.toNat := by show val [b] = _; simp [val]
  rw [hv, if_pos (by have := b.toNat_lt; omega)]
  rfl
theorem oTf {t : ByteArray} {most : Int} (hm : (t.size : Int) ≤ most) (ht : t.size ≤ 100000) (r : List UInt8) : oR_Text.f (ofL (txt t ++ r)) 0 most = some (t, ofL r, 0) := by
  have hl : t.data.toList.length = t.size := by simp
  rw [rText, if_pos rfl, ofL_L]
  have e : txt t ++ r = grp t.size ++ (t.data.toList ++ r) := by rw [txt, List.append_assoc]
  have := rdG_grp most t.size (t.data.toList ++ r) hm (by omega)
  rw [e, this]
  simp only [if_true, Int.toNat_natCast]
  rw [List.drop_left' rfl, if_neg (by rw [List.length_append]; omega), List.take_left' hl, List.drop_left' hl, ofL_of]
theorem oBf (s : ByteArray) : oR_Bytes.f s 0 (s.size : Int) = some (s, ofL [], 0) := by
  have hl : s.data.toList.length = s.size := by simp
  rw [rBytes, if_pos rfl, if_neg (by omega), if_neg (by omega), Int.toNat_natCast, List.take_of_length_le (by omega), List.drop_of_length_le (by omega), ofL_of]
theorem oDf : oR_Done.f (ofL []) 0 = some (0, ofL [], 0) := by
  unfold oR_Done.f
  rw [if_pos rfl, if_pos (by rw [toList_L]; rfl)]
end Go.Proofs.YtipenplplmdclaaDoor.Tkt
end
section
namespace Go.Proofs.YtipenplplmdclaaDoor.Tkt
open Go Go.RowKit Go.Proofs.YtipenplplmdclaaDoor.Px Go.Proofs.YtipenplplmdclaaDoorW.PrintWords Go.Proofs.YtipenplplmdclaaDoor.Str Go.Proofs.YtipenplplmdclaaDoor.OctF Go.Proofs.YtipenplplmdclaaDoor.CrcB
set_option linter.unusedSimpArgs false
set_option linter.unusedVariables false
theorem short_f (q w id : Int) (a b c : ByteArray) (n : Int) (d : ByteArray) (ta f l : Int) (ak : Bool) (y : ByteArray) (ha : a.size ≤ 140737488351232) (hb : b.size ≤ 140737488351232) (hc : c.size ≤ 140737488351232) (hd : d.size ≤ 140737488351232) (hy : y.size ≤ 140737488351232) :
    gonglaw23_short.f q w id a b c n d ta f l ak y = some (decide (a.size + b.size + c.size + d.size + y.size < 4000)) := by
  unfold gonglaw23_short.f
  rw [wrap64_id (x := (a.size : Int) + (b.size : Int)) (by omega) (by omega), wrap64_id (x := (a.size : Int) + (b.size : Int) + (c.size : Int)) (by omega) (by omega), wrap64_id (x := (a.size : Int) + (b.size : Int) + (c.size : Int) + (d.size : Int)) (by omega) (by omega), wrap64_id (by omega) (by omega)]
  exact congrArg some (decide_eq_decide.2 ⟨fun z => by omega, fun z => by omega⟩)
def opnR (l : List UInt8) (b : UInt8) : ByteArray × Int × Bool := if 4 ≤ l.length ∧ run all l = residue ∧ (l.take (l.length - 4)).take 1 = [b] then (ofL ((l.take (l.length - 4)).drop 1), 0, true) else (⟨#[]⟩, 0, false)
theorem topen_f (s : ByteArray) (b : UInt8) (hs : s.size ≤ 1000000) : ticket_open.f s (⟨#[b]⟩ : ByteArray) = some (opnR s.data.toList b) := by
  have hl : s.data.toList.length = s.size := by simp
  have h1 : (⟨#[b]⟩ : ByteArray).size = 1 := rfl
  have hbl : (⟨#[b]⟩ : ByteArray).toList = [b] := by rw [toList_L]
  unfold ticket_open.f opnR
  rw [open_f s (by omega), Option.bind_some, h1, hbl]
  by_cases c : 4 ≤ s.size ∧ run all s.data.toList = residue
  · have hx : (s.extract 0 (s.size - 4)).data.toList = s.data.toList.take (s.size - 4) := pre_L s _
    have hxs : (s.extract 0 (s.size - 4)).size = s.size - 4 := by rw [size_L, hx, List.length_take, hl]; omega
    rw [if_pos c]
    simp only [Bool.true_eq_false, if_false]
    rw [hxs, hl]
    by_cases c1 : s.size - 4 < 1
    · rw [if_pos c1, if_neg]
      rintro ⟨_, _, c2⟩
      have := congrArg List.length c2
      simp at this
      omega
    · rw [if_neg c1, toList_L, pre_L, hx]
      by_cases c2 : (s.data.toList.take (s.size - 4)).take 1 = [b]
      · rw [if_pos c2, if_pos ⟨c.1, c.2, c2⟩]
        congr 2
        apply ext
        have := post_L (s.extract 0 (s.size - 4)) 1
        rw [hxs, hx] at this
        rw [this, ofL_L]
      · rw [if_neg c2, if_neg (fun z => c2 z.2.2)]
  · rw [if_neg c, if_pos rfl, if_neg (fun z => c ⟨by have := z.1; omega, z.2.1⟩)]
theorem opnR_tag (l : List UInt8) (b c : UInt8) : opnR (tagL (c :: l)) b = if c = b then (ofL l, 0, true) else (⟨#[]⟩, 0, false) := by
  have hlen := tagL_length (c :: l)
  have ht : (tagL (c :: l)).take ((tagL (c :: l)).length - 4) = c :: l := by
    rw [hlen, Nat.add_sub_cancel]
    show ((c :: l) ++ _).take _ = _
    rw [List.take_left']
    rfl
  unfold opnR
  rw [ht, run_tagL]
  by_cases hc : c = b
  · subst hc
    rw [if_pos ⟨by rw [hlen]; omega, rfl, rfl⟩, if_pos rfl]
    rfl
  · rw [if_neg (fun z => hc (by simpa using z.2.2)), if_neg hc]
def ackR (l : List UInt8) : Int × Int := match opnR l 65 with
  | (s, _, ok) => if ok = true then (if (rdG 1152921504606846976 s.data.toList).2.2 = 0 ∧ s.data.toList.drop (rdG 1152921504606846976 s.data.toList).2.1.toNat = [] ∧ 1 ≤ (rdG 1152921504606846976 s.data.toList).1 then ((rdG 1152921504606846976 s.data.toList).1, 0) else (0, 230)) else (0, 230)
theorem opnR_code (l : List UInt8) (b : UInt8) : (opnR l b).2.1 = 0 := by unfold opnR; split <;> rfl
theorem tacked_k (s : ByteArray) (hs : s.size ≤ 1000000) (k : Nat) (hk : 19 ≤ k) : ticket_Acked.f k s = some (ackR s.data.toList) := by
  unfold ticket_Acked.f ackR
  rw [topen_f s 65 hs, Option.bind_some]
  have hc := opnR_code s.data.toList 65
  generalize opnR s.data.toList 65 = o at hc
  obtain ⟨t, c, ok⟩ := o
  simp only at hc
  subst hc
  simp only
  cases ok with
  | false => simp
  | true =>
    simp only [if_true]
    rw [rGroups t 0 _ k hk, Option.bind_some]
    simp only [if_true]
    obtain ⟨g1, g2, g3, g4, g5⟩ := rdG_long 1152921504606846976 t.data.toList
    by_cases h0 : (rdG 1152921504606846976 t.data.toList).2.2 = 0
    · by_cases hd : t.data.toList.drop (rdG 1152921504606846976 t.data.toList).2.1.toNat = []
      · by_cases h1 : (rdG 1152921504606846976 t.data.toList).1 < 1
        · simp [oR_Done.f, toList_L, h0, hd, h1, show ¬ (1 ≤ (rdG 1152921504606846976 t.data.toList).1) by omega]
        · simp [oR_Done.f, toList_L, h0, hd, h1, show 1 ≤ (rdG 1152921504606846976 t.data.toList).1 by omega]
      · simp [oR_Done.f, oR_Refuse.f, toList_L, h0, hd]
    · simp [oR_Done.f, oR_Refuse.f, toList_L, h0]
theorem tacked_ev (s : ByteArray) (hs : s.size ≤ 1000000) : Ev (fun k => ticket_Acked.f k s) (ackR s.data.toList) := ⟨19, fun k hk => tacked_k s hs k hk⟩
theorem ackR_ack (n : Int) (h0 : 1 ≤ n) (h1 : n ≤ 1152921504606846976) : ackR (tagL (ackL n)) = (n, 0) := by
  unfold ackR ackL
  rw [opnR_tag, if_pos rfl]
  simp only [if_true, ofL_L]
  have hr := rdG_grp 1152921504606846976 n.toNat [] (by omega) (by omega)
  rw [List.append_nil] at hr
  show (if (rdG 1152921504606846976 (gi n)).2.2 = 0 ∧ (gi n).drop (rdG 1152921504606846976 (gi n)).2.1.toNat = [] ∧ 1 ≤ (rdG 1152921504606846976 (gi n)).1 then ((rdG 1152921504606846976 (gi n)).1, (0 : Int)) else (0, 230)) = (n, 0)
  rw [show rdG 1152921504606846976 (gi n) = _ from hr]
  simp only [Int.toNat_natCast]
  rw [if_pos ⟨trivial, by unfold gi; simp, by omega⟩]
  congr 1
  omega
theorem works_ev : Ev (fun k => gonglaw23_works.f k) true := by
  obtain ⟨K1, h1⟩ := tack_ev 1
  have e1 : ackB 1 = true := rfl
  have e2 : ackL 1 = [65, 1] := by
    have : grp 1 = [1] := by rw [grp, hi]; rfl
    show 65 :: grp 1 = _
    rw [this]
  obtain ⟨K2, h2⟩ := tacked_ev (ofL (tagL (ackL 1))) (by rw [ofL_size, tagL_length, e2]; decide)
  rw [ofL_L, ackR_ack 1 (by decide) (by decide)] at h2
  refine ⟨K1 + K2, fun k hk => ?_⟩
  have ht : crc_Tag.f (⟨#[65, 1]⟩ : ByteArray) = some (ofL (tagL (ackL 1))) := by
    rw [e2]
    exact tag_f (⟨#[65, 1]⟩ : ByteArray) (by decide)
  simp only [gonglaw23_works.f, h1 k (by omega), e1, if_true, Option.bind_some, h2 k (by omega), ht]
  rfl
end Go.Proofs.YtipenplplmdclaaDoor.Tkt
end
section
namespace Go.Proofs.YtipenplplmdclaaDoor.Tkt
open Go Go.RowKit Go.Proofs.YtipenplplmdclaaDoor.Px Go.Proofs.YtipenplplmdclaaDoorW.PrintWords Go.Proofs.YtipenplplmdclaaDoor.Str Go.Proofs.YtipenplplmdclaaDoor.OctF Go.Proofs.YtipenplplmdclaaDoor.CrcB
set_option linter.unusedSimpArgs false
set_option linter.unusedVariables false
theorem plB_size {s : ByteArray} {m : Int} (h : plB s m = true) : (s.size : Int) ≤ m := by
  unfold plB at h
  split at h
  · simp only [Bool.and_eq_true, decide_eq_true_eq] at h
    exact h.2
  · cases h
theorem evB_sizes {a b c : ByteArray} {n : Int} {d : ByteArray} (h : evB a b c n d = true) : a.size ≤ 64 ∧ b.size ≤ 64 ∧ c.size ≤ 128 ∧ d.size ≤ 1024 := by
  simp only [evB, Bool.and_eq_true] at h
  obtain ⟨_, _, h1, h2, h3, h4, _⟩ := h
  have := plB_size h1
  have := plB_size h2
  have := plB_size h3
  have := plB_size h4
  omega
theorem row_who {ak : Bool} {y : ByteArray} (h : (if ak = true then whoB y else decide (y.toList = [])) = true) : y.size ≤ 64 := by
  cases ak with
  | true =>
    simp only [if_true, whoB, Bool.and_eq_true] at h
    have := plB_size h.2
    omega
  | false =>
    simp only [Bool.false_eq_true, if_false, decide_eq_true_eq, toList_L] at h
    have : y.data.toList.length = y.size := by simp
    rw [h] at this
    simp at this
    omega
theorem ndec_fwd {a b c : ByteArray} {n : Int} {d : ByteArray} (h : evB a b c n d = true) : Ev (fun k => norm_Decode.f k (ofL (evL a b c n d))) (a, b, c, n, d, 0) := by
  have hn := evB_n h
  obtain ⟨s1, s2, s3, s4⟩ := evB_sizes h
  obtain ⟨K, hK⟩ := ncheck_ev a b c n d (by omega) (by omega) (by omega) (by omega)
  refine ⟨K + 19, fun k hk => ?_⟩
  have e1 := oTf (t := a) (most := 64) (by omega) (by omega) (txt b ++ (txt c ++ (txt d ++ gi n)))
  have e2 := oTf (t := b) (most := 64) (by omega) (by omega) (txt c ++ (txt d ++ gi n))
  have e3 := oTf (t := c) (most := 128) (by omega) (by omega) (txt d ++ gi n)
  have e4 := oTf (t := d) (most := 1024) (by omega) (by omega) (gi n)
  have e5 := oGf (m := n) (most := 5) hn.1 hn.2 (by omega) [] (show 19 ≤ k by omega)
  rw [List.append_nil] at e5
  simp only [norm_Decode.f, octet_Read.f, evL, Option.bind_some, e1, e2, e3, e4, e5, oDf, if_true, hK k (by omega), h]
abbrev Tup := Int × Int × Int × ByteArray × ByteArray × ByteArray × Int × ByteArray × Int × Int × Int × Bool × ByteArray × Int
def zT : Tup := (0, 0, 0, ⟨#[]⟩, ⟨#[]⟩, ⟨#[]⟩, 0, ⟨#[]⟩, 0, 0, 0, false, ⟨#[]⟩, 230)
theorem u8_of {w : Int} (h0 : 0 ≤ w) (h1 : w < 256) : (((UInt8.ofNat w.toNat).toNat : Nat) : Int) = w := by
  rw [UInt8.toNat_ofNat']
  omega
theorem akL_cons (ak : Bool) (r : List UInt8) : akL ak ++ r = UInt8.ofNat (if ak = true then 1 else 0) :: r := by cases ak <;> rfl
theorem tdec_fwd {q w id : Int} {a b c : ByteArray} {n : Int} {d : ByteArray} {ta f l : Int} {ak : Bool} {y : ByteArray} (hid : id < 9223372036854775808) (h : tkB q w id a b c n d ta f l ak y = true) :
    Ev (fun k => ticket_Decode.f k (ofL (tagL (msgL q w id a b c n d ta f l ak y)))) (q, w, id, a, b, c, n, d, ta, f, l, ak, y, 0) := by
  obtain ⟨q1, q2, q3, q4, hr⟩ := tkB_iff.1 h
  obtain ⟨r1, r2, r3, r4, r5, r6, r7⟩ := rowB_iff.1 hr
  obtain ⟨t1, t2, t3, t4, t5⟩ := timesB_iff.1 r5
  obtain ⟨s1, s2, s3, s4⟩ := evB_sizes r7
  have s5 := row_who r6
  have hpl := payL_len (w := w) (show a.size ≤ 100000 by omega) (show b.size ≤ 100000 by omega) (show c.size ≤ 100000 by omega) (show d.size ≤ 100000 by omega) (show y.size ≤ 100000 by omega) hid hr
  have hgl := gi_len (show 0 ≤ q by omega) (show q < 9223372036854775808 by omega)
  obtain ⟨K1, h1⟩ := ndec_fwd r7
  obtain ⟨K2, h2⟩ := tcheck_ev q w id a b c n d ta f l ak y (by omega) (by omega) (by omega) (by omega) (by omega)
  refine ⟨K1 + K2 + 19, fun k hk => ?_⟩
  have ho := topen_f (ofL (tagL (msgL q w id a b c n d ta f l ak y))) 71 (by rw [ofL_size, tagL_length]; simp only [msgL, List.length_cons, List.length_append]; omega)
  rw [ofL_L, msgL, opnR_tag, if_pos rfl] at ho
  have hk19 : 19 ≤ k := by omega
  have e1 := oGf (m := q) (most := 1152921504606846976) (by omega) q2 (by omega) (payL w id a b c n d ta f l ak y) hk19
  have e2 := oWf (UInt8.ofNat w.toNat) (rowL id a b c n d ta f l ak y)
  rw [u8_of (by omega) (by omega)] at e2
  have e3 := oGf (m := id) (most := 9223372036854775807) (by omega) (by omega) hid (gi ta ++ (gi f ++ (gi l ++ (akL ak ++ (txt y ++ evL a b c n d))))) hk19
  have e4 := oGf (m := ta) (most := 1099511627776) (by omega) r4 (by omega) (gi f ++ (gi l ++ (akL ak ++ (txt y ++ evL a b c n d)))) hk19
  have e5 := oGf (m := f) (most := 2305843009213693952) t1 t2 (by omega) (gi l ++ (akL ak ++ (txt y ++ evL a b c n d))) hk19
  have e6 := oGf (m := l) (most := 2305843009213693952) t3 t4 (by omega) (akL ak ++ (txt y ++ evL a b c n d)) hk19
  have e7 := oWf (UInt8.ofNat (if ak = true then 1 else 0)) (txt y ++ evL a b c n d)
  rw [← akL_cons] at e7
  have e8 := oTf (t := y) (most := 64) (by omega) (by omega) (evL a b c n d)
  have e9 := oBf (ofL (evL a b c n d))
  have hak : (((UInt8.ofNat (if ak = true then 1 else 0)).toNat : Int) == 1) = ak ∧ ¬ ((UInt8.ofNat (if ak = true then 1 else 0)).toNat : Int) > 1 := by cases ak <;> decide
  simp only [payL, rowL] at ho e1 e2
  simp only [msgL, payL, rowL, ticket_Decode.f, ho, Option.bind_some, if_true, e1, e2, e3, e4, e5, e6, e7, e8, oR_Left.f, e9, h1 k (by omega), oDf, hak.1, hak.2, if_false, h2 k (by omega), h]
end Go.Proofs.YtipenplplmdclaaDoor.Tkt
end
section
namespace Go.Proofs.YtipenplplmdclaaDoor.Tkt
open Go Go.RowKit Go.Proofs.YtipenplplmdclaaDoor.Px Go.Proofs.YtipenplplmdclaaDoorW.PrintWords Go.Proofs.YtipenplplmdclaaDoor.Str Go.Proofs.YtipenplplmdclaaDoor.OctF Go.Proofs.YtipenplplmdclaaDoor.CrcB
set_option linter.unusedSimpArgs false
set_option linter.unusedVariables false
theorem below_tk (x n : Int) (h0 : 0 < n) (h1 : n ≤ 4611686018427387904) : gongbook_Below.f x n = some (x % n) := by
  unfold gongbook_Below.f
  rw [if_neg (by omega)]
  have hr := Int.tmod_lt_of_pos x h0
  have hl : -n < Int.tmod x n := by
    have := Int.lt_tmod_of_pos x h0
    omega
  rw [wrap64_id (by omega) (by omega)]
  congr 1
  have e : (Int.tmod x n + n).tmod n = (Int.tmod x n + n) % n := Int.tmod_eq_emod_of_nonneg (by omega)
  rw [e, Int.add_emod_right]
  rcases Int.le_total 0 x with hx | hx
  · rw [Int.tmod_eq_emod_of_nonneg hx, Int.emod_emod_of_dvd _ (Int.dvd_refl n)]
  · have : Int.tmod x n = x - n * Int.tdiv x n := by have := Int.mul_tdiv_add_tmod x n; omega
    rw [this, Int.sub_mul_emod_self_left]
theorem ev_one {α : Type} {g : Nat → Option α} {a b : α} (h : Ev g a) (k : Ev g b) : a = b := by
  obtain ⟨K1, h1⟩ := h
  obtain ⟨K2, h2⟩ := k
  exact Option.some.inj ((h1 (K1 + K2) (by omega)).symm.trans (h2 (K1 + K2) (by omega)))
theorem tdec_ack (n : Int) (h0 : 1 ≤ n) (h1 : n ≤ 1152921504606846976) : Ev (fun k => ticket_Decode.f k (ofL (tagL (ackL n)))) zT := by
  have hg := gi_len (show 0 ≤ n by omega) (show n < 9223372036854775808 by omega)
  have ho := topen_f (ofL (tagL (ackL n))) 71 (by rw [ofL_size, tagL_length]; simp only [ackL, List.length_cons]; omega)
  rw [ofL_L, ackL, opnR_tag, if_neg (by decide)] at ho
  refine ⟨0, fun k _ => ?_⟩
  simp only [ackL, ticket_Decode.f, ho, Option.bind_some, Bool.false_eq_true, if_false]
  rfl
theorem ackR_msg (q : Int) (w : Int) (id : Int) (a : ByteArray) (b : ByteArray) (c : ByteArray) (n : Int) (d : ByteArray) (ta : Int) (f : Int) (l : Int) (ak : Bool) (y : ByteArray) : ackR (tagL (msgL q w id a b c n d ta f l ak y)) = (0, 230) := by
  unfold ackR msgL
  rw [opnR_tag, if_neg (by decide)]
  rfl
theorem payL_inj {w id : Int} {a b c : ByteArray} {n : Int} {d : ByteArray} {ta f l : Int} {ak : Bool} {y : ByteArray} {w2 id2 : Int} {a2 b2 c2 : ByteArray} {n2 : Int} {d2 : ByteArray} {ta2 f2 l2 : Int} {ak2 : Bool} {y2 : ByteArray}
    (hid : id < 9223372036854775808) (hid2 : id2 < 9223372036854775808) (h : tkB 1 w id a b c n d ta f l ak y = true) (h2 : tkB 1 w2 id2 a2 b2 c2 n2 d2 ta2 f2 l2 ak2 y2 = true) (he : payL w id a b c n d ta f l ak y = payL w2 id2 a2 b2 c2 n2 d2 ta2 f2 l2 ak2 y2) :
    w = w2 ∧ id = id2 ∧ a = a2 ∧ b = b2 ∧ c = c2 ∧ n = n2 ∧ d = d2 ∧ ta = ta2 ∧ f = f2 ∧ l = l2 ∧ ak = ak2 ∧ y = y2 := by
  have e1 := tdec_fwd hid h
  have e2 := tdec_fwd hid2 h2
  rw [msgL, he] at e1
  have := ev_one e1 e2
  simp only [Prod.mk.injEq, true_and, and_true] at this
  exact this
theorem j2_ev (x : Int) : Ev (fun k => gonglaw23_TicketBack.j2 k x) true := by
  have h0 := Int.emod_nonneg x (show (1152921504606846976 : Int) ≠ 0 by decide)
  have h1 := Int.emod_lt_of_pos x (show (0 : Int) < 1152921504606846976 by decide)
  have hb := below_tk x 1152921504606846976 (by decide) (by decide)
  generalize x % 1152921504606846976 = m at h0 h1 hb
  obtain ⟨K1, k1⟩ := tack_ev (1 + m)
  have hak : ackB (1 + m) = true := decide_eq_true ⟨by omega, by omega⟩
  have hg := gi_len (show 0 ≤ 1 + m by omega) (show 1 + m < 9223372036854775808 by omega)
  obtain ⟨K2, k2⟩ := tacked_ev (ofL (tagL (ackL (1 + m)))) (by rw [ofL_size, tagL_length]; simp only [ackL, List.length_cons]; omega)
  rw [ofL_L, ackR_ack (1 + m) (by omega) (by omega)] at k2
  obtain ⟨K3, k3⟩ := tdec_ack (1 + m) (by omega) (by omega)
  refine ev_succ (K1 + K2 + K3) fun k hk => ?_
  simp only [gonglaw23_TicketBack.j2, hb, Option.bind_some, wrap64_id (x := 1 + m) (by omega) (by omega), k1 k (by omega), hak, if_true, k2 k (by omega), k3 k (by omega)]
  rfl
theorem j1_ev (q : Int) (w : Int) (id : Int) (a : ByteArray) (b : ByteArray) (c : ByteArray) (n : Int) (d : ByteArray) (ta : Int) (f : Int) (l : Int) (ak : Bool) (y : ByteArray) (q2 : Int) (w2 : Int) (id2 : Int) (a2 : ByteArray) (b2 : ByteArray) (c2 : ByteArray) (n2 : Int) (d2 : ByteArray) (ta2 : Int) (f2 : Int) (l2 : Int) (ak2 : Bool) (y2 : ByteArray) (x : Int) (ha : a.size ≤ 100000) (hb : b.size ≤ 100000) (hc : c.size ≤ 100000) (hd : d.size ≤ 100000) (hy : y.size ≤ 100000) (ha2 : a2.size ≤ 100000) (hb2 : b2.size ≤ 100000) (hc2 : c2.size ≤ 100000) (hd2 : d2.size ≤ 100000) (hy2 : y2.size ≤ 100000) (hid : id < 9223372036854775808) (hid2 : id2 < 9223372036854775808) (ht : tkB q w id a b c n d ta f l ak y = true) : Ev (fun k => gonglaw23_TicketBack.j1 k x false q w id a b c n d ta f l ak y q2 w2 id2 a2 b2 c2 n2 d2 ta2 f2 l2 ak2 y2) true := by
  obtain ⟨K1, k1⟩ := tpay_ev q w id a b c n d ta f l ak y ha hb hc hd hy hid
  obtain ⟨K2, k2⟩ := tpay_ev q2 w2 id2 a2 b2 c2 n2 d2 ta2 f2 l2 ak2 y2 ha2 hb2 hc2 hd2 hy2 hid2
  obtain ⟨K3, k3⟩ := j2_ev x
  refine ev_succ (K1 + K2 + K3) fun k hk => ?_
  simp only [gonglaw23_TicketBack.j1, Bool.false_eq_true, if_false, k1 k (by omega), k2 k (by omega), k3 k (by omega), Option.bind_some, ht, if_true]
  rcases Bool.eq_false_or_eq_true (tkB q2 w2 id2 a2 b2 c2 n2 d2 ta2 f2 l2 ak2 y2) with p | p
  · simp only [p, if_true, toList_L, ofL_L]
    have t1 : tkB 1 w id a b c n d ta f l ak y = true := by
      obtain ⟨_, _, g3, g4, g5⟩ := tkB_iff.1 ht
      exact tkB_iff.2 ⟨by decide, by decide, g3, g4, g5⟩
    have t2 : tkB 1 w2 id2 a2 b2 c2 n2 d2 ta2 f2 l2 ak2 y2 = true := by
      obtain ⟨_, _, g3, g4, g5⟩ := tkB_iff.1 p
      exact tkB_iff.2 ⟨by decide, by decide, g3, g4, g5⟩
    by_cases hw : w = w2
    · subst hw
      rw [if_pos rfl]
      rw [if_neg]
      rw [Bool.not_eq_true, bne_eq_false_iff_eq]
      apply Bool.eq_iff_iff.2
      simp only [Bool.and_eq_true, beq_iff_eq]
      constructor
      · intro he
        obtain ⟨_, e1, e2, e3, e4, e5, e6, e7, e8, e9, ea, eb⟩ := payL_inj hid hid2 t1 t2 he
        exact ⟨e1, ⟨by rw [e2], by rw [e3], by rw [e4], e5, by rw [e6]⟩, e7, e8, e9, ea, by rw [eb]⟩
      · rintro ⟨e1, ⟨e2, e3, e4, e5, e6⟩, e7, e8, e9, ea, eb⟩
        rw [e1, ext e2, ext e3, ext e4, e5, ext e6, e7, e8, e9, ea, ext eb]
    · rw [if_neg hw, if_neg]
      rw [Bool.not_eq_true, bne_eq_false_iff_eq, beq_eq_false_iff_ne]
      intro he
      exact hw (payL_inj hid hid2 t1 t2 he).1
  · simp [p]
theorem j0_ev (q : Int) (w : Int) (id : Int) (a : ByteArray) (b : ByteArray) (c : ByteArray) (n : Int) (d : ByteArray) (ta : Int) (f : Int) (l : Int) (ak : Bool) (y : ByteArray) (q2 : Int) (w2 : Int) (id2 : Int) (a2 : ByteArray) (b2 : ByteArray) (c2 : ByteArray) (n2 : Int) (d2 : ByteArray) (ta2 : Int) (f2 : Int) (l2 : Int) (ak2 : Bool) (y2 : ByteArray) (x : Int) (ha : a.size ≤ 100000) (hb : b.size ≤ 100000) (hc : c.size ≤ 100000) (hd : d.size ≤ 100000) (hy : y.size ≤ 100000) (ha2 : a2.size ≤ 100000) (hb2 : b2.size ≤ 100000) (hc2 : c2.size ≤ 100000) (hd2 : d2.size ≤ 100000) (hy2 : y2.size ≤ 100000) (hid : id < 9223372036854775808) (hid2 : id2 < 9223372036854775808) : Ev (fun k => gonglaw23_TicketBack.j0 k x false q w id a b c n d ta f l ak y q2 w2 id2 a2 b2 c2 n2 d2 ta2 f2 l2 ak2 y2) true := by
  obtain ⟨K1, k1⟩ := tenc_ev q w id a b c n d ta f l ak y ha hb hc hd hy hid
  rcases Bool.eq_false_or_eq_true (tkB q w id a b c n d ta f l ak y) with p | p
  · obtain ⟨K2, k2⟩ := tdec_fwd hid p
    obtain ⟨_, _, _, _, hr⟩ := tkB_iff.1 p
    have hpl := payL_len (w := w) ha hb hc hd hy hid hr
    have hq := tkB_iff.1 p
    have hg := gi_len (show 0 ≤ q by omega) (show q < 9223372036854775808 by omega)
    obtain ⟨K3, k3⟩ := tacked_ev (ofL (tagL (msgL q w id a b c n d ta f l ak y))) (by rw [ofL_size, tagL_length]; simp only [msgL, List.length_cons, List.length_append]; omega)
    rw [ofL_L, ackR_msg] at k3
    obtain ⟨K4, k4⟩ := j1_ev q w id a b c n d ta f l ak y q2 w2 id2 a2 b2 c2 n2 d2 ta2 f2 l2 ak2 y2 x ha hb hc hd hy ha2 hb2 hc2 hd2 hy2 hid hid2 p
    refine ev_succ (K1 + K2 + K3 + K4) fun k hk => ?_
    have k4' : gonglaw23_TicketBack.j1 k x ((230 : Int) != 230) q w id a b c n d ta f l ak y q2 w2 id2 a2 b2 c2 n2 d2 ta2 f2 l2 ak2 y2 = some true := k4 k (by omega)
    simp only [gonglaw23_TicketBack.j0, Bool.false_eq_true, if_false, k1 k (by omega), p, if_true, Option.bind_some, k2 k (by omega), k3 k (by omega), beq_self_eq_true, Bool.not_true, Bool.or_self, k4']
  · obtain ⟨K3, k3⟩ := j2_ev x
    refine ev_succ (K1 + K3) fun k hk => ?_
    simp only [gonglaw23_TicketBack.j0, Bool.false_eq_true, if_false, k1 k (by omega), p, Option.bind_some, k3 k (by omega)]
    rw [if_neg (by decide)]
theorem tback_ev (q : Int) (w : Int) (id : Int) (a : ByteArray) (b : ByteArray) (c : ByteArray) (n : Int) (d : ByteArray) (ta : Int) (f : Int) (l : Int) (ak : Bool) (y : ByteArray) (q2 : Int) (w2 : Int) (id2 : Int) (a2 : ByteArray) (b2 : ByteArray) (c2 : ByteArray) (n2 : Int) (d2 : ByteArray) (ta2 : Int) (f2 : Int) (l2 : Int) (ak2 : Bool) (y2 : ByteArray) (x : Int) (ha : a.size ≤ 140737488351232) (hb : b.size ≤ 140737488351232) (hc : c.size ≤ 140737488351232) (hd : d.size ≤ 140737488351232) (hy : y.size ≤ 140737488351232) (ha2 : a2.size ≤ 140737488351232) (hb2 : b2.size ≤ 140737488351232) (hc2 : c2.size ≤ 140737488351232) (hd2 : d2.size ≤ 140737488351232) (hy2 : y2.size ≤ 140737488351232) (hid : id < 9223372036854775808) (hid2 : id2 < 9223372036854775808) : Ev (fun k => gonglaw23_TicketBack.f k q w id a b c n d ta f l ak y q2 w2 id2 a2 b2 c2 n2 d2 ta2 f2 l2 ak2 y2 x) true := by
  obtain ⟨K9, k9⟩ := works_ev
  have hs := short_f q w id a b c n d ta f l ak y ha hb hc hd hy
  have hs2 := short_f q2 w2 id2 a2 b2 c2 n2 d2 ta2 f2 l2 ak2 y2 ha2 hb2 hc2 hd2 hy2
  by_cases p : a.size + b.size + c.size + d.size + y.size < 4000
  · rw [decide_eq_true p] at hs
    by_cases p2 : a2.size + b2.size + c2.size + d2.size + y2.size < 4000
    · rw [decide_eq_true p2] at hs2
      obtain ⟨K1, k1⟩ := j0_ev q w id a b c n d ta f l ak y q2 w2 id2 a2 b2 c2 n2 d2 ta2 f2 l2 ak2 y2 x (by omega) (by omega) (by omega) (by omega) (by omega) (by omega) (by omega) (by omega) (by omega) (by omega) hid hid2
      refine ⟨K9 + K1, fun k hk => ?_⟩
      simp only [gonglaw23_TicketBack.f, k9 k (by omega), Option.bind_some, if_true, hs, hs2, Bool.not_true, k1 k (by omega)]
    · rw [decide_eq_false p2] at hs2
      refine ev_succ K9 fun k hk => ?_
      simp only [gonglaw23_TicketBack.f, k9 (k + 1) (by omega), Option.bind_some, if_true, hs, hs2, Bool.not_false, gonglaw23_TicketBack.j0]
  · rw [decide_eq_false p] at hs
    refine ev_succ K9 fun k hk => ?_
    simp only [gonglaw23_TicketBack.f, k9 (k + 1) (by omega), Option.bind_some, if_true, hs, Bool.false_eq_true, if_false, gonglaw23_TicketBack.j0]
end Go.Proofs.YtipenplplmdclaaDoor.Tkt
namespace Go.Proofs.YtipenplplmdclaaDoor.Pure
open Go Go.RowKit Go.Proofs.YtipenplplmdclaaDoor.Px Go.Proofs.YtipenplplmdclaaDoorW.PrintWords Go.Proofs.YtipenplplmdclaaDoor.Str Go.Proofs.YtipenplplmdclaaDoor.Tkt
theorem TicketBack (x y : S27) (z : Int) (h : (Lit.int .i64 x.f0).wf = true ∧ (Lit.int .i64 x.f1).wf = true ∧ (Lit.int .i64 x.f2.f0).wf = true ∧ (x.f2.f1.f0.size ≤ 140737488351232 ∧ x.f2.f1.f1.size ≤ 140737488351232 ∧ x.f2.f1.f2.size ≤ 140737488351232 ∧ (Lit.int .i64 x.f2.f1.f3).wf = true ∧ x.f2.f1.f4.size ≤ 140737488351232) ∧ (Lit.int .i64 x.f2.f2).wf = true ∧ (Lit.int .i64 x.f2.f3).wf = true ∧ (Lit.int .i64 x.f2.f4).wf = true ∧ True ∧ x.f2.f6.size ≤ 140737488351232) (h2 : (Lit.int .i64 y.f0).wf = true ∧ (Lit.int .i64 y.f1).wf = true ∧ (Lit.int .i64 y.f2.f0).wf = true ∧ (y.f2.f1.f0.size ≤ 140737488351232 ∧ y.f2.f1.f1.size ≤ 140737488351232 ∧ y.f2.f1.f2.size ≤ 140737488351232 ∧ (Lit.int .i64 y.f2.f1.f3).wf = true ∧ y.f2.f1.f4.size ≤ 140737488351232) ∧ (Lit.int .i64 y.f2.f2).wf = true ∧ (Lit.int .i64 y.f2.f3).wf = true ∧ (Lit.int .i64 y.f2.f4).wf = true ∧ True ∧ y.f2.f6.size ≤ 140737488351232) (_ : (Lit.int .i64 z).wf = true) : true = true ∧ ∃ k, gonglaw23_TicketBack.f k x.f0 x.f1 x.f2.f0 x.f2.f1.f0 x.f2.f1.f1 x.f2.f1.f2 x.f2.f1.f3 x.f2.f1.f4 x.f2.f2 x.f2.f3 x.f2.f4 x.f2.f5 x.f2.f6 y.f0 y.f1 y.f2.f0 y.f2.f1.f0 y.f2.f1.f1 y.f2.f1.f2 y.f2.f1.f3 y.f2.f1.f4 y.f2.f2 y.f2.f3 y.f2.f4 y.f2.f5 y.f2.f6 z = some true := by
  refine ⟨rfl, ?_⟩
  obtain ⟨_, _, h3, ⟨s1, s2, s3, _, s4⟩, _, _, _, _, s5⟩ := h
  obtain ⟨_, _, g3, ⟨r1, r2, r3, _, r4⟩, _, _, _, _, r5⟩ := h2
  exact (tback_ev x.f0 x.f1 x.f2.f0 x.f2.f1.f0 x.f2.f1.f1 x.f2.f1.f2 x.f2.f1.f3 x.f2.f1.f4 x.f2.f2 x.f2.f3 x.f2.f4 x.f2.f5 x.f2.f6 y.f0 y.f1 y.f2.f0 y.f2.f1.f0 y.f2.f1.f1 y.f2.f1.f2 y.f2.f1.f3 y.f2.f1.f4 y.f2.f2 y.f2.f3 y.f2.f4 y.f2.f5 y.f2.f6 z s1 s2 s3 s4 s5 r1 r2 r3 r4 r5 (by have := (wf_i64 h3).2; omega) (by have := (wf_i64 g3).2; omega)).rounds
end Go.Proofs.YtipenplplmdclaaDoor.Pure
end
section
namespace Go.Proofs.YtipenplplmdclaaDoor.Px
open Go Go.RowKit Go.Proofs.YtipenplplmdclaaDoorW.PrintWords
theorem gonglaw23_TicketBack.whole (cs0 : Array Value) (x0 : S27) (cs1 : Array Value) (x1 : S27) (a2 : Int) (r : Bool) (w : World) (hx0 : k27.K w x0 cs0.toList) (hx1 : k27.K w x1 cs1.toList) (HT : Aside0 (TabW w)) (h : r = true ∧ ∃ k, gonglaw23_TicketBack.f k x0.f0 x0.f1 x0.f2.f0 x0.f2.f1.f0 x0.f2.f1.f1 x0.f2.f1.f2 x0.f2.f1.f3 x0.f2.f1.f4 x0.f2.f2 x0.f2.f3 x0.f2.f4 x0.f2.f5 x0.f2.f6 x1.f0 x1.f1 x1.f2.f0 x1.f2.f1.f0 x1.f2.f1.f1 x1.f2.f1.f2 x1.f2.f1.f3 x1.f2.f1.f4 x1.f2.f2 x1.f2.f3 x1.f2.f4 x1.f2.f5 x1.f2.f6 a2 = some true) :
    Calls Tryd.prog 5 #[.agg cs0, .agg cs1, .int .i64 a2] w fun e w' => e = .returned (.bool r) ∧ Below w.heap.size w w' := by
  obtain ⟨rfl, k, hk⟩ := h
  obtain rfl := tk_cells hx0
  obtain rfl := tk_cells hx1
  exact gonglaw23_TicketBack.calls k x0.f0 x0.f1 x0.f2.f0 x0.f2.f1.f0 x0.f2.f1.f1 x0.f2.f1.f2 x0.f2.f1.f3 x0.f2.f1.f4 x0.f2.f2 x0.f2.f3 x0.f2.f4 x0.f2.f5 x0.f2.f6 x1.f0 x1.f1 x1.f2.f0 x1.f2.f1.f0 x1.f2.f1.f1 x1.f2.f1.f2 x1.f2.f1.f3 x1.f2.f1.f4 x1.f2.f2 x1.f2.f3 x1.f2.f4 x1.f2.f5 x1.f2.f6 a2 true w HT hk rfl
end Go.Proofs.YtipenplplmdclaaDoor.Px
end
section
namespace Go.Proofs.YtipenplplmdclaaDoor.Open
open Go Go.RowKit Go.Proofs.YtipenplplmdclaaDoorW.PrintWords
def Opens (R : Nat) {α : Type} (d : Kd α) (P : Program) (t : TypeId) (WF : α → Prop) : Prop :=
  P.cellsOf t = d.sz ∧ ∀ (H : Type) (enc : TypeId × Value → H) (W : World) (base : Nat) (sp : Nat → Bool) (held : Bool) (fuel : Nat) (cs : List Value) (y : DataW H) (p : List MemPlace),
    DataW.trod enc P W base sp held fuel t cs = some (y, p) → (∀ n ∈ y.weights P t, n ≤ R) → ∃ x, d.K W x cs ∧ WF x
theorem int {R : Nat} {P : Program} {t : TypeId} {k : IntKind} (h : P.underlying t = some (.int k)) (hc : P.cellsOf t = 1) : Opens R (Kd.int k) P t (fun n => (Lit.int k n).wf = true) := by
  refine ⟨hc, fun H enc W base sp held fuel cs y p ht _ => ?_⟩
  obtain ⟨n, rfl, _, hw⟩ := DataW.trod_int h ht
  exact ⟨n, rfl, hw⟩
theorem bool {R : Nat} {P : Program} {t : TypeId} (h : P.underlying t = some .bool) (hc : P.cellsOf t = 1) : Opens R Kd.bool P t (fun _ => True) := by
  refine ⟨hc, fun H enc W base sp held fuel cs y p ht _ => ?_⟩
  cases fuel with
  | zero => simp [DataW.trod] at ht
  | succ fuel =>
    simp only [DataW.trod, h] at ht
    split at ht <;> first | (rename_i h1 h2; cases h1) | skip
    all_goals first | (cases ht; done) | skip
    all_goals simp_all
    · exact .inl rfl
    · exact .inr rfl
theorem string {R : Nat} {P : Program} {t : TypeId} (h : P.underlying t = some .string) (hc : P.cellsOf t = 1) : Opens R Kd.string P t (fun s => s.size ≤ R) := by
  refine ⟨hc, fun H enc W base sp held fuel cs y p ht hw => ?_⟩
  obtain ⟨s, rfl, he, hs⟩ := DataW.trod_string h ht
  obtain ⟨rfl, rfl⟩ := Prod.mk.inj he
  refine ⟨s, rfl, ?_⟩
  have := hw s.data.toList.length (by simp [DataW.weights])
  simpa using this
theorem choose_list {α : Type} {Q : Nat → α → Prop} : ∀ n, (∀ i, i < n → ∃ x, Q i x) → ∃ l : List α, l.length = n ∧ ∀ i x, l[i]? = some x → Q i x
  | 0, _ => ⟨[], rfl, fun i x h => by simp at h⟩
  | n + 1, h => by
    obtain ⟨l, hl, hq⟩ := choose_list n (fun i hi => h i (by omega))
    obtain ⟨x, hx⟩ := h n (by omega)
    refine ⟨l ++ [x], by simp [hl], fun i y hy => ?_⟩
    rcases Nat.lt_trichotomy i n with hlt | rfl | hgt
    · rw [List.getElem?_append_left (by omega)] at hy
      exact hq i y hy
    · rw [List.getElem?_append_right (by omega), hl] at hy
      simp at hy
      subst hy
      exact hx
    · rw [List.getElem?_append_right (by omega)] at hy
      rw [List.getElem?_eq_none (by simp; omega)] at hy
      cases hy
theorem weights_all {H : Type} {P : Program} {e : TypeId} : ∀ {l : List (DataW H)} {i : Nat} {d : DataW H}, l[i]? = some d → ∀ n ∈ d.weights P e, n ∈ DataW.weightsAll P e l
  | x :: l, 0, d, h, n, hn => by
    simp only [List.getElem?_cons_zero, Option.some.injEq] at h
    subst h
    simp only [DataW.weightsAll, List.mem_append]
    exact .inl hn
  | x :: l, i + 1, d, h, n, hn => by
    simp only [List.getElem?_cons_succ] at h
    simp only [DataW.weightsAll, List.mem_append]
    exact .inr (weights_all h n hn)
  | [], _, _, h, _, _ => by simp at h
theorem cells_at {w : World} {base : Nat} {a : Addr} {n : Nat} {cs : List Value} (h : w.cells? base a n = some cs) : cs.length = n ∧ ∀ j u, cs[j]? = some u → w.cell? (a.add j) = some u := by
  unfold World.cells? at h
  split at h
  · have hl := Lib.mapM_length h
    simp at hl
    refine ⟨hl, fun j u hu => ?_⟩
    have hj : j < n := by
      rcases Nat.lt_or_ge j n with h' | h'
      · exact h'
      · rw [List.getElem?_eq_none (by omega)] at hu
        cases hu
    obtain ⟨b, hb, hf⟩ := Lib.mapM_at h j j (by simp [hj])
    rw [hu] at hb
    injection hb with hb
    subst hb
    exact hf
  · cases h
theorem slice_elems {R : Nat} {α : Type} {d : Kd α} {P : Program} {t e : TypeId} {WF : α → Prop} (ht : P.underlying t = some (.slice e)) (hd : Opens R d P e WF)
    {H : Type} {enc : TypeId × Value → H} {W : World} {base : Nat} {sp : Nat → Bool} {held : Bool} {fuel : Nat} {A : Option Addr} {len cap : Nat} {y : DataW H} {p : List MemPlace}
    (h : DataW.trod enc P W base sp held fuel t [.slice A len cap] = some (y, p)) (hw : ∀ n ∈ y.weights P t, n ≤ R) :
    ∃ l : List α, l.length = len ∧ Kd.C d W A len l ∧ len ≤ cap ∧ (∀ x ∈ l, WF x) ∧ len * P.bytesOf e ≤ R := by
  cases fuel with
  | zero => simp [DataW.trod] at h
  | succ fuel =>
    cases A with
    | none =>
      have h' := h
      simp only [DataW.trod, ht] at h'
      split at h' <;> simp_all
      exact Kd.C_nil d W
    | some a =>
      simp only [DataW.trod, ht] at h
      split at h
      · rename_i hb
        obtain ⟨elems, hm, h⟩ := Option.bind_eq_some_iff.1 h
        obtain ⟨rest, hr, h⟩ := Option.map_eq_some_iff.1 h
        simp only [Prod.mk.injEq] at h
        obtain ⟨rfl, rfl⟩ := h
        have hel : elems.length = len := by simpa using Lib.mapM_length hm
        simp only [DataW.weights, ht, List.mem_cons, List.mem_append] at hw
        have hsz := hw _ (.inl rfl)
        simp only [List.length_map, hel] at hsz
        have hex : ∀ i, i < len → ∃ x, (∃ c, c.length = d.sz ∧ d.K W x c ∧ ∀ j u, c[j]? = some u → W.cell? (a.add (i * d.sz + j)) = some u) ∧ WF x := by
          intro i hi
          obtain ⟨b, hb', hf⟩ := Lib.mapM_at hm i i (by simp [hi])
          obtain ⟨c, hc, hf⟩ := Option.bind_eq_some_iff.1 hf
          obtain ⟨hcl, hcell⟩ := cells_at hc
          obtain ⟨yb, pb⟩ := b
          obtain ⟨x, hx, hwf⟩ := hd.2 H enc W base sp held fuel c yb pb hf (fun n hn => hw n (.inr (.inl (weights_all (i := i) (d := yb) (by simp [hb']) n hn))))
          rw [hd.1] at hcell hcl
          exact ⟨x, ⟨c, hcl, hx, fun j u hu => by rw [← hcell j u hu, Addr.add_add]⟩, hwf⟩
        obtain ⟨l, hl, hq⟩ := choose_list len hex
        refine ⟨l, hl, ⟨hl, by have := hb.2; unfold maxLen at this; omega, fun _ => ⟨a, rfl, fun j x hx => (hq j x hx).1⟩⟩, hb.2.1, fun x hx => ?_, ?_⟩
        · obtain ⟨i, hi⟩ := List.mem_iff_getElem?.1 hx
          exact (hq i x hi).2
        · have h1 : len * P.bytesOf e ≤ (len + rest.length) * P.bytesOf e := Nat.mul_le_mul_right _ (by omega)
          omega
      · cases h
theorem slice {R : Nat} {α : Type} {d : Kd α} {P : Program} {t e : TypeId} {WF : α → Prop} (ht : P.underlying t = some (.slice e)) (hd : Opens R d P e WF) (hc : P.cellsOf t = 1) :
    Opens R (Kd.slice e d) P t (fun l => (∀ x ∈ l, WF x) ∧ l.length * P.bytesOf e ≤ R) := by
  refine ⟨hc, fun H enc W base sp held fuel cs y p h hw => ?_⟩
  have hform : ∃ A len cap, cs = [.slice A len cap] := by
    cases fuel with
    | zero => simp [DataW.trod] at h
    | succ fuel =>
      have h' := h
      simp only [DataW.trod, ht] at h'
      split at h' <;> first | exact ⟨_, _, _, rfl⟩ | (simp_all; done) | skip
      all_goals (simp_all)
  obtain ⟨A, len, cap, rfl⟩ := hform
  obtain ⟨l, hl, hC, hcap, hwf, hb⟩ := slice_elems ht hd h hw
  subst hl
  exact ⟨l, ⟨A, cap, rfl, hcap, hC⟩, hwf, hb⟩
def Fields (R : Nat) {α : Type} (d : Kd α) (P : Program) (fs : List Field) (o : Nat) (WF : α → Prop) : Prop :=
  ∀ (H : Type) (enc : TypeId × Value → H) (W : World) (base : Nat) (sp : Nat → Bool) (held : Bool) (fuel : Nat) (cs : List Value) (xs : List (DataW H × List MemPlace)), cs.length = o + d.sz →
    (fs.mapM fun f => DataW.trod enc P W base sp held fuel f.type ((cs.drop f.offset).take (P.cellsOf f.type))) = some xs → (∀ n ∈ DataW.weightsEach P (fs.map (·.type)) (xs.map (·.1)), n ≤ R) → ∃ x, d.K W x (cs.drop o) ∧ WF x
theorem field_last {R : Nat} {α : Type} {d : Kd α} {P : Program} {f : Field} {o : Nat} {WF : α → Prop} (ho : f.offset = o) (hd : Opens R d P f.type WF) : Fields R d P [f] o WF := by
  intro H enc W base sp held fuel cs xs hl hm hw
  simp only [List.mapM_cons, List.mapM_nil, Option.bind_eq_bind, Option.bind_eq_some_iff, Option.pure_def, Option.some.injEq] at hm
  obtain ⟨⟨y, p⟩, hy, _, rfl, rfl⟩ := hm
  rw [ho, hd.1, List.take_of_length_le (by simp; omega)] at hy
  exact hd.2 H enc W base sp held fuel _ y p hy (fun n hn => hw n (by simp [DataW.weightsEach, hn]))
theorem field_more {R : Nat} {α β : Type} {d0 : Kd α} {d1 : Kd β} {P : Program} {f : Field} {fs : List Field} {o : Nat} {WF0 : α → Prop} {WF1 : β → Prop} (ho : f.offset = o) (h0 : Opens R d0 P f.type WF0) (h1 : Fields R d1 P fs (o + d0.sz) WF1) :
    Fields R (Kd.pair d0 d1) P (f :: fs) o (fun x => WF0 x.1 ∧ WF1 x.2) := by
  intro H enc W base sp held fuel cs xs hl hm hw
  simp only [List.mapM_cons, Option.bind_eq_bind, Option.bind_eq_some_iff, Option.pure_def, Option.some.injEq] at hm
  obtain ⟨⟨y, p⟩, hy, ys, hys, rfl⟩ := hm
  have hl' : cs.length = (o + d0.sz) + d1.sz := by rw [hl]; show o + (d0.sz + d1.sz) = _; omega
  rw [ho, h0.1] at hy
  obtain ⟨x0, hx0, hw0⟩ := h0.2 H enc W base sp held fuel _ y p hy (fun n hn => hw n (by simp [DataW.weightsEach, hn]))
  obtain ⟨x1, hx1, hw1⟩ := h1 H enc W base sp held fuel cs ys hl' hys (fun n hn => hw n (by simp only [List.map_cons, DataW.weightsEach, List.mem_append]; exact .inr hn))
  refine ⟨(x0, x1), ⟨(cs.drop o).take d0.sz, cs.drop (o + d0.sz), ?_, hx0, hx1⟩, hw0, hw1⟩
  rw [← List.drop_drop, List.take_append_drop]
theorem struct {R : Nat} {α β : Type} {d : Kd α} {P : Program} {t : TypeId} {fs : Array Field} {WF : α → Prop} (ht : P.underlying t = some (.struct fs)) (hc : P.cellsOf t = d.sz) (hf : Fields R d P fs.toList 0 WF) (f : β → α) (g : α → β) (hg : ∀ y, f (g y) = y) :
    Opens R (Kd.iso d f) P t (fun b => WF (f b)) := by
  refine ⟨hc, fun H enc W base sp held fuel cs y p h hw => ?_⟩
  cases fuel with
  | zero => simp [DataW.trod] at h
  | succ fuel =>
    simp only [DataW.trod, ht] at h
    split at h
    · rename_i hl
      obtain ⟨xs, hm, hx⟩ := Option.map_eq_some_iff.1 h
      simp only [Prod.mk.injEq] at hx
      obtain ⟨rfl, rfl⟩ := hx
      obtain ⟨x, hK, hwf⟩ := hf H enc W base sp held fuel cs xs (by omega) hm (fun n hn => hw n (by simpa [DataW.weights, ht] using hn))
      rw [List.drop_zero] at hK
      exact ⟨g x, by show d.K W (f (g x)) cs; rw [hg]; exact hK, by show WF (f (g x)); rw [hg]; exact hwf⟩
    · cases h
theorem agg_arg {R : Nat} {α : Type} {d : Kd α} {P : Program} {t : TypeId} {WF : α → Prop} (hd : Opens R d P t WF)
    {H : Type} {enc : TypeId × Value → H} {W : World} {base : Nat} {sp : Nat → Bool} {held : Bool} {cs : Array Value} {y : DataW H} {p : List MemPlace} {ts : List TypeId} {ds : List (DataW H)}
    (h : DataW.Trod enc P W base sp held t (.agg cs) y p) (hsz : (DataW.weightsEach P ts ds).all (· ≤ R) = true) {j : Nat} (htj : ts[j]? = some t) (hdj : ds[j]? = some y) :
    ∃ x, d.K W x cs.toList ∧ WF x := by
  obtain ⟨fuel, hf⟩ := h
  have hw : ∀ n ∈ y.weights P t, n ≤ R := fun n hn => by simpa using List.all_eq_true.1 hsz n (DataW.weights_mem_each htj hdj n hn)
  exact hd.2 H enc W base sp held fuel cs.toList y p (by simpa [Value.cells] using hf) hw
end Go.Proofs.YtipenplplmdclaaDoor.Open
end
section
namespace Go.Proofs.YtipenplplmdclaaDoor.Laid
open Go Go.RowKit
theorem half_data {H : Type} : Rows.laid_gong_crc_half (H := H) = Lib.tabData .u32 Crc.halfL := rfl
def boolData {H : Type} (bs : List Bool) : DataW H := .agg (bs.map fun b => .lit (.bool b))
set_option maxRecDepth 100000 in
theorem whats_data {H : Type} : Rows.laid_gong_ticket_whats (H := H) = boolData Px.whatsL := rfl
theorem trod_bool {H : Type} {enc : TypeId × Value → H} {P : Program} {W : World} {base : Nat} {sp : Nat → Bool} {held : Bool} {fuel : Nat} {t : TypeId} {cs : List Value} {y : DataW H} {p : List MemPlace}
    (h : P.underlying t = some .bool) (ht : DataW.trod enc P W base sp held fuel t cs = some (y, p)) : ∃ b : Bool, cs = [.bool b] ∧ y = .lit (.bool b) := by
  cases fuel with
  | zero => simp [DataW.trod] at ht
  | succ fuel =>
    simp only [DataW.trod, h] at ht
    split at ht <;> first | (rename_i h1 h2; cases h1) | skip
    all_goals first | (cases ht; done) | skip
    all_goals simp_all
theorem cells_of_bools {H : Type} {enc : TypeId × Value → H} {P : Program} {w : World} {base : Nat} {sp : Nat → Bool} {held : Bool} {fuel : Nat} {t e : TypeId} {n : Nat} {cs : List Value} {zs : List Bool} {p : List MemPlace}
    (ht : P.underlying t = some (.array n e)) (he : P.underlying e = some .bool) (hce : P.cellsOf e = 1) (hct : P.cellsOf t = n)
    (h : DataW.trod enc P w base sp held fuel t cs = some (boolData zs, p)) : cs = zs.map Value.bool := by
  cases fuel with
  | zero => simp [DataW.trod] at h
  | succ fuel =>
    simp only [DataW.trod, ht, hce, hct, Nat.mul_one] at h
    split at h
    · rename_i hl
      obtain ⟨xs, hm, hx⟩ := Option.map_eq_some_iff.1 h
      have hxs : xs.map (·.1) = zs.map fun z => (DataW.lit (.bool z) : DataW H) := by
        have := congrArg Prod.fst hx
        simpa [boolData] using this
      have hxl : xs.length = n := by simpa using Lib.mapM_length hm
      have hzl : zs.length = n := by
        have := congrArg List.length hxs
        simp at this
        omega
      apply List.ext_getElem?
      intro i
      by_cases hi : i < n
      · obtain ⟨b, hb, hf⟩ := Lib.mapM_at hm i i (by simp [hi])
        obtain ⟨z, hc, hy⟩ := trod_bool he hf
        have h1 : cs[i]? = some (.bool z) := by
          have := congrArg (·[0]?) hc
          simpa [List.getElem?_take, List.getElem?_drop] using this
        have h2 : (xs.map (·.1))[i]? = some (DataW.lit (.bool z) : DataW H) := by simp [hb, hy]
        rw [hxs] at h2
        simp only [List.getElem?_map, Option.map_eq_some_iff, DataW.lit.injEq, Lit.bool.injEq] at h2
        obtain ⟨z', hz', rfl⟩ := h2
        simp [h1, hz']
      · rw [List.getElem?_eq_none (by omega), List.getElem?_eq_none (by simp; omega)]
    · cases h
theorem tabs {W : World} (h : laidMetH Tryd.prog [("gong/crc.half", Rows.laid_gong_crc_half), ("gong/ticket.whats", Rows.laid_gong_ticket_whats)] W) : Px.TabW W := by
  rw [MakeChecks.laidMetH_plain _ _ _ (by kernel_rfl), half_data, whats_data] at h
  refine ⟨Lib.tabIs_of_head (g := 1) (t := 90) (e := 43) (n := 16) (by kernel_rfl) (by kernel_rfl) Tryd.underlying90 Tryd.underlying43 (by kernel_rfl) (by kernel_rfl) h, ?_⟩
  obtain ⟨ps, ⟨g', t', cs, fuel, p, q, hg', ht', hvar, hd, _, _⟩, _⟩ := h.tail
  obtain rfl := Option.some.inj (Px.whats_at.symm.trans hg')
  obtain rfl := Option.some.inj ((show (Tryd.prog.globals[0]?).map (·.type) = some 54 by kernel_rfl).symm.trans ht')
  show W.var? Tryd.prog "gong/ticket.whats" = some (Px.whatsL.map Value.bool).toArray
  rw [hvar, ← cells_of_bools Tryd.underlying54 Tryd.underlying4 (by kernel_rfl) (by kernel_rfl) hd]
end Go.Proofs.YtipenplplmdclaaDoor.Laid
end
section
namespace Go.Proofs.YtipenplplmdclaaDoor.ticketBack
open Go.ChangeShapes Go.WideShapes Go.ChangeAt Go.RowKit Go.Proofs.YtipenplplmdclaaDoorW.PrintWords
open Go.ChangeMaps (open_string shut_string)
theorem own : ownKnob Tryd.prog.godebug = none := by kernel_rfl
theorem laidOut : laidOutB Tryd.prog = true := by kernel_rfl
def laidL : List (String × DataW Unit) := [("gong/crc.half", Rows.laid_gong_crc_half), ("gong/ticket.whats", Rows.laid_gong_ticket_whats)]
theorem door_met (os : Os) (args : Array Value) : laidMetH Tryd.prog laidL ((World.doorLaid Tryd.prog 19 os).forCall (fun _ _ => 0) ⟨#[], args, []⟩).memory :=
  laidMetH_of_parts3 (fuel := 8) (laidMet_of_run' 8 (by kernel_rfl) (by kernel_rfl)) (by kernel_rfl) (by kernel_rfl)
set_option maxRecDepth 100000 in
theorem lifted (os : Os) (started : os.Started) (H : Type) (enc : TypeId × Value → H) :
    ReturnsInHanded {} Tryd.checked os 5 .any (fun w args => (Rows.ticketBackSpec.pre enc Tryd.prog Tryd.f5 [] false w args ∧ laidMetH Tryd.prog laidL w) ∧ sizedMet enc Tryd.prog Tryd.f5 (OpenSpec.ofChange Rows.ticketBackSpec) false w args)
      (Rows.ticketBackSpec.post enc Tryd.prog Tryd.f5 false true false false) := by
  refine returnsInHanded_of_change_and (C := Tryd.checked) (X := fun w _ => laidMetH Tryd.prog laidL w) (fun _ _ _ hh h => h.of_heap hh) own started (by kernel_rfl) Tryd.func5
    (ChangeSpec.witness_shaped (enc := enc) (C := Tryd.checked) (os := os) (X := fun w _ => laidMetH Tryd.prog laidL w) false (World.doorLaid Tryd.prog 19 os) #[.agg #[.int .i64 0, .int .i64 0, .int .i64 0, .string ByteArray.empty, .string ByteArray.empty, .string ByteArray.empty, .int .i64 0, .string ByteArray.empty, .int .i64 0, .int .i64 0, .int .i64 0, .bool false, .string ByteArray.empty], .agg #[.int .i64 0, .int .i64 0, .int .i64 0, .string ByteArray.empty, .string ByteArray.empty, .string ByteArray.empty, .int .i64 0, .string ByteArray.empty, .int .i64 0, .int .i64 0, .int .i64 0, .bool false, .string ByteArray.empty], .int .i64 0] 8 rfl (World.shaped_of_RefB (by kernel_rfl) (by kernel_rfl)) (by kernel_rfl) (by kernel_rfl) (by kernel_rfl) (door_met os _)) ?_
  intro W base args ds gs before hval0 hW _ hsz0 hL _
  have HT : Px.TabW W := Laid.tabs hL
  have hsz : (DataW.weightsEach Tryd.prog (Tryd.f5.params.toList ++ Rows.ticketBackSpec.plain.varTypes Tryd.prog) (ds ++ gs)).all (· ≤ reachBytes) = true := hsz0
  have hval : ∀ (j : Nat) t v, Tryd.f5.params[j]? = some t → args[j]? = some v → Value.okWide Tryd.prog W .any base t v := hval0
  have hW' := hW
  obtain ⟨p, q, hA0, hV, rfl, hfz, hnd⟩ := hW
  have hA : DataW.TrodAll enc Tryd.prog W 0 (fun _ => true) true Tryd.f5.params.toList args.toList ds p := hA0
  rw [Tryd.params5] at hA hval hsz
  obtain ⟨v0, vs0, d0, ds0, p0, q0, hargs, rfl, rfl, h0, r0⟩ := trodAll_cons hA
  obtain ⟨v1, vs1, d1, ds1, p1, q1, rfl, rfl, rfl, h1, r1⟩ := trodAll_cons r0
  obtain ⟨v2, vs2, d2, ds2, p2, q2, rfl, rfl, rfl, h2, r2⟩ := trodAll_cons r1
  obtain ⟨rfl, rfl, rfl⟩ := trodAll_nil r2
  obtain rfl : args = #[v0, v1, v2] := by cases args; simp_all
  obtain ⟨rfl, rfl⟩ := trodVars_none hV
  obtain ⟨a0, rfl, _⟩ := okWide_struct Tryd.underlying27 (hval 0 27 v0 rfl rfl)
  have k0 := h0
  have lt0 : ∀ x ∈ p0, x.block < W.heap.size := by obtain ⟨m, hm⟩ := k0; exact DataW.trod_lt m _ _ _ hm
  obtain ⟨x0, hx0, wf0⟩ := Open.agg_arg (d := Px.k27) (Open.struct Tryd.underlying27 (by kernel_rfl) (Open.field_more rfl (Open.int Tryd.underlying3 (by kernel_rfl)) (Open.field_more rfl (Open.int Tryd.underlying3 (by kernel_rfl)) (Open.field_last rfl (Open.struct Tryd.underlying25 (by kernel_rfl) (Open.field_more rfl (Open.int Tryd.underlying3 (by kernel_rfl)) (Open.field_more rfl (Open.struct Tryd.underlying23 (by kernel_rfl) (Open.field_more rfl (Open.string Tryd.underlying9 (by kernel_rfl)) (Open.field_more rfl (Open.string Tryd.underlying9 (by kernel_rfl)) (Open.field_more rfl (Open.string Tryd.underlying9 (by kernel_rfl)) (Open.field_more rfl (Open.int Tryd.underlying3 (by kernel_rfl)) (Open.field_last rfl (Open.string Tryd.underlying9 (by kernel_rfl))))))) (fun x : Px.S23 => (x.f0, x.f1, x.f2, x.f3, x.f4)) (fun y => ⟨y.1, y.2.1, y.2.2.1, y.2.2.2.1, y.2.2.2.2⟩) (fun _ => rfl)) (Open.field_more rfl (Open.int Tryd.underlying3 (by kernel_rfl)) (Open.field_more rfl (Open.int Tryd.underlying3 (by kernel_rfl)) (Open.field_more rfl (Open.int Tryd.underlying3 (by kernel_rfl)) (Open.field_more rfl (Open.bool Tryd.underlying4 (by kernel_rfl)) (Open.field_last rfl (Open.string Tryd.underlying9 (by kernel_rfl))))))))) (fun x : Px.S25 => (x.f0, x.f1, x.f2, x.f3, x.f4, x.f5, x.f6)) (fun y => ⟨y.1, y.2.1, y.2.2.1, y.2.2.2.1, y.2.2.2.2.1, y.2.2.2.2.2.1, y.2.2.2.2.2.2⟩) (fun _ => rfl))))) (fun x : Px.S27 => (x.f0, x.f1, x.f2)) (fun y => ⟨y.1, y.2.1, y.2.2⟩) (fun _ => rfl)) h0 hsz (j := 0) (t := 27) rfl rfl
  obtain ⟨a1, rfl, _⟩ := okWide_struct Tryd.underlying27 (hval 1 27 v1 rfl rfl)
  have k1 := h1
  have lt1 : ∀ x ∈ p1, x.block < W.heap.size := by obtain ⟨m, hm⟩ := k1; exact DataW.trod_lt m _ _ _ hm
  obtain ⟨x1, hx1, wf1⟩ := Open.agg_arg (d := Px.k27) (Open.struct Tryd.underlying27 (by kernel_rfl) (Open.field_more rfl (Open.int Tryd.underlying3 (by kernel_rfl)) (Open.field_more rfl (Open.int Tryd.underlying3 (by kernel_rfl)) (Open.field_last rfl (Open.struct Tryd.underlying25 (by kernel_rfl) (Open.field_more rfl (Open.int Tryd.underlying3 (by kernel_rfl)) (Open.field_more rfl (Open.struct Tryd.underlying23 (by kernel_rfl) (Open.field_more rfl (Open.string Tryd.underlying9 (by kernel_rfl)) (Open.field_more rfl (Open.string Tryd.underlying9 (by kernel_rfl)) (Open.field_more rfl (Open.string Tryd.underlying9 (by kernel_rfl)) (Open.field_more rfl (Open.int Tryd.underlying3 (by kernel_rfl)) (Open.field_last rfl (Open.string Tryd.underlying9 (by kernel_rfl))))))) (fun x : Px.S23 => (x.f0, x.f1, x.f2, x.f3, x.f4)) (fun y => ⟨y.1, y.2.1, y.2.2.1, y.2.2.2.1, y.2.2.2.2⟩) (fun _ => rfl)) (Open.field_more rfl (Open.int Tryd.underlying3 (by kernel_rfl)) (Open.field_more rfl (Open.int Tryd.underlying3 (by kernel_rfl)) (Open.field_more rfl (Open.int Tryd.underlying3 (by kernel_rfl)) (Open.field_more rfl (Open.bool Tryd.underlying4 (by kernel_rfl)) (Open.field_last rfl (Open.string Tryd.underlying9 (by kernel_rfl))))))))) (fun x : Px.S25 => (x.f0, x.f1, x.f2, x.f3, x.f4, x.f5, x.f6)) (fun y => ⟨y.1, y.2.1, y.2.2.1, y.2.2.2.1, y.2.2.2.2.1, y.2.2.2.2.2.1, y.2.2.2.2.2.2⟩) (fun _ => rfl))))) (fun x : Px.S27 => (x.f0, x.f1, x.f2)) (fun y => ⟨y.1, y.2.1, y.2.2⟩) (fun _ => rfl)) h1 hsz (j := 1) (t := 27) rfl rfl
  obtain ⟨a2, rfl, rfl, rfl, w2⟩ := open_int Tryd.underlying3 (hval 2 3 v2 rfl rfl) h2
  clear hA0 hval0 hsz0 hsz
  have hk := Pure.TicketBack x0 x1 a2 wf0 wf1 w2
  refine (Px.gonglaw23_TicketBack.whole a0 x0 a1 x1 a2 true W hx0 hx1 ⟨HT⟩ hk).mono fun e W' ⟨he, hd⟩ => ?_
  subst he
  have bel : Below W.heap.size W W' := hd
  exact ⟨_, rfl, _, _, _, [], _, [], hW', trodAll_mk1 (shut_bool Tryd.underlying4 _), (trodAll_cons_mk (Below.trod laidOut (by kernel_rfl) (of_decide_eq_true (by kernel_rfl)) k0 bel lt0) (trodAll_cons_mk (Below.trod laidOut (by kernel_rfl) (of_decide_eq_true (by kernel_rfl)) k1 bel lt1) (trodAll_cons_mk (shut_int Tryd.underlying3 w2) trodAll_mk0))), rfl, bel.frame _, fun h => by cases h⟩
theorem over : Rows.ticketBackRow.holds Tryd.pinned (OpenSpec.ofChange Rows.ticketBackSpec) :=
  OpenClaim.holds_of_wide 5 Tryd.f5 rfl rfl rfl rfl rfl rfl rfl ⟨rfl, rfl, rfl, rfl, rfl⟩ rfl rfl rfl rfl rfl (by kernel_rfl) Tryd.func5 (by kernel_rfl)
    (of_decide_eq_true (by kernel_rfl)) (by unfold Func.isWrapper; first | (rw [if_pos (by decide +kernel)]; kernel_rfl) | (rw [if_neg (by decide +kernel)]; exact ⟨rfl, rfl⟩))
    (fun os started H enc _ => lifted os started H enc)
theorem proved : Rows.TicketBackCardSaid :=
  Claim7.holds_tied_plain_at .later [] [.data, .data] true (true, "9f82870e36640dfb5702ad76a2b84487ece746f37b5575c84b21c1295ff48b59") false
    over (fun _ h => by cases h) (by kernel_rfl) (fun _ h => by cases h) ticketBack_row_tie rfl ⟨rfl, rfl⟩ (by kernel_rfl) rfl
    (fun f fn hf hfn => by
      obtain rfl : f = 5 := Option.some.inj ((show Tryd.prog.funcNamed "gong/gonglaw23.TicketBack" = some 5 by kernel_rfl).symm.trans hf) |>.symm
      obtain rfl : fn = Tryd.f5 := (Option.some.inj (Tryd.func5.symm.trans hfn)).symm
      exact ⟨by kernel_rfl, fun j t ht => by
        rw [Tryd.params5] at ht
        have hm : t ∈ [27, 27, 3] := by simpa using Array.mem_of_getElem? ht
        have hall : ([27, 27, 3].all fun u => !Tryd.prog.wantsStandIn u) = true := by kernel_rfl
        exact (show Tryd.prog.wantsStandIn t = false by simpa using List.all_eq_true.1 hall t hm)⟩)
    (by kernel_rfl)
#print axioms proved
end Go.Proofs.YtipenplplmdclaaDoor.ticketBack
namespace Go.Proofs.YtipenplplmdclaaDoor
theorem ticketBack_holds : Rows.TicketBackCardSaid := ticketBack.proved
end Go.Proofs.YtipenplplmdclaaDoor
end
